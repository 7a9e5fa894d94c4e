/- Plain facts and contracts of functions of the program, out of walks. Their conditions stand ahead of each. -/
import Derived.WalkKit
set_option linter.unusedVariables false
set_option linter.unusedSimpArgs false
namespace Go.Proofs.YtjdnpkicdmapnaaGreatDoor.K3
open Go
open Go Go.RowKit
theorem wrap_bv32 (x : BitVec 32) : IntKind.u32.wrap (x.toNat : Int) = (x.toNat : Int) := by
  rw [IntKind.wrap_u32]; have := x.isLt; omega
theorem or32 (x y : Int) : bits .or .u32 x y = ((BitVec.ofInt 32 x ||| BitVec.ofInt 32 y).toNat : Int) := wrap_bv32 _
theorem and32 (x y : Int) : bits .and .u32 x y = ((BitVec.ofInt 32 x &&& BitVec.ofInt 32 y).toNat : Int) := wrap_bv32 _
theorem xor32 (x y : Int) : bits .xor .u32 x y = ((BitVec.ofInt 32 x ^^^ BitVec.ofInt 32 y).toNat : Int) := wrap_bv32 _
theorem back32 (b : BitVec 32) : BitVec.ofInt 32 (b.toNat : Int) = b := by
  apply BitVec.eq_of_toNat_eq
  rw [BitVec.ofInt_natCast, BitVec.toNat_ofNat]
  exact Nat.mod_eq_of_lt b.isLt
theorem top32 (b : BitVec 32) : (b.toNat : Int) / 2147483648 = if b.msb then 1 else 0 := by
  rw [BitVec.msb_eq_decide]
  have := b.isLt
  by_cases h : 2 ^ (32 - 1) ≤ b.toNat
  · rw [decide_eq_true h]; simp; omega
  · rw [decide_eq_false h]; simp; omega
theorem msbN (x : Nat) (h : x < 4294967296) : (BitVec.ofInt 32 (x : Int)).msb = decide (2147483648 ≤ x) := by
  rw [BitVec.msb_eq_decide, BitVec.ofInt_natCast, BitVec.toNat_ofNat, Nat.mod_eq_of_lt (by omega)]
theorem borrow32 (x y c : Nat) (hx : x < 4294967296) (hy : y < 4294967296) (hc : c ≤ 1) :
    bits .or .u32 (bits .and .u32 (bits .xor .u32 IntKind.u32.max (x : Int)) (y : Int)) (bits .and .u32 (bits .xor .u32 IntKind.u32.max (bits .xor .u32 (x : Int) (y : Int))) (((x : Int) - (y : Int) - (c : Int)) % 4294967296)) / 2147483648 = ((if x < y + c then 1 else 0 : Nat) : Int) := by
  obtain ⟨d, hd, hd1⟩ : ∃ d : Nat, ((x : Int) - y - c) % 4294967296 = (d : Int) ∧ d < 4294967296 := ⟨(((x : Int) - y - c) % 4294967296).toNat, by omega, by omega⟩
  rw [hd]
  have hm : (BitVec.ofInt 32 IntKind.u32.max).msb = true := by decide
  simp only [or32, and32, xor32, back32, top32, BitVec.msb_or, BitVec.msb_and, BitVec.msb_xor, msbN x hx, msbN y hy, msbN d hd1, hm]
  by_cases a : 2147483648 ≤ x <;> by_cases b : 2147483648 ≤ y <;> by_cases e : 2147483648 ≤ d <;> simp [a, b, e] <;> (split <;> omega)
/-- numbers that share no bit: or is the sum -/
theorem or32_add (x y k : Nat) (hk : k ≤ 32) (hx : x < 2 ^ k) (hy : y < 4294967296) (hd : y % 2 ^ k = 0) : bits .or .u32 (x : Int) (y : Int) = ((y + x : Nat) : Int) := by
  have lt : 2 ^ k ≤ 2 ^ 32 := Nat.pow_le_pow_right (by omega) hk
  rw [or32]
  congr 1
  rw [BitVec.toNat_or, BitVec.ofInt_natCast, BitVec.ofInt_natCast, BitVec.toNat_ofNat, BitVec.toNat_ofNat, Nat.mod_eq_of_lt (by omega), Nat.mod_eq_of_lt (by omega)]
  have hm : y = 2 ^ k * (y / 2 ^ k) := by have := Nat.div_add_mod y (2 ^ k); omega
  rw [Nat.or_comm]
  conv => lhs; rw [hm]
  rw [← Nat.two_pow_add_eq_or_of_lt hx]
  omega
theorem wrap_bv64 (x : BitVec 64) : IntKind.u64.wrap (x.toNat : Int) = (x.toNat : Int) := by
  rw [IntKind.wrap_u64]; have := x.isLt; omega
theorem or64 (x y : Int) : bits .or .u64 x y = ((BitVec.ofInt 64 x ||| BitVec.ofInt 64 y).toNat : Int) := wrap_bv64 _
theorem or64_add (x y k : Nat) (hk : k ≤ 64) (hx : x < 2 ^ k) (hy : y < 18446744073709551616) (hd : y % 2 ^ k = 0) : bits .or .u64 (x : Int) (y : Int) = ((y + x : Nat) : Int) := by
  have lt : 2 ^ k ≤ 2 ^ 64 := Nat.pow_le_pow_right (by omega) hk
  rw [or64]
  congr 1
  rw [BitVec.toNat_or, BitVec.ofInt_natCast, BitVec.ofInt_natCast, BitVec.toNat_ofNat, BitVec.toNat_ofNat, Nat.mod_eq_of_lt (by omega), Nat.mod_eq_of_lt (by omega)]
  have hm : y = 2 ^ k * (y / 2 ^ k) := by have := Nat.div_add_mod y (2 ^ k); omega
  rw [Nat.or_comm]
  conv => lhs; rw [hm]
  rw [← Nat.two_pow_add_eq_or_of_lt hx]
  omega
theorem or64_comm (x y : Int) : bits .or .u64 x y = bits .or .u64 y x := by rw [or64, or64, BitVec.or_comm]
theorem or32_comm (x y : Int) : bits .or .u32 x y = bits .or .u32 y x := by rw [or32, or32, BitVec.or_comm]
end Go.Proofs.YtjdnpkicdmapnaaGreatDoor.K3
namespace Go.Proofs.YtjdnpkicdmapnaaGreatDoor.K3
open Go
open Go Go.RowKit
theorem or_i64_add (x y k : Nat) (hk : k ≤ 63) (hx : x < 2 ^ k) (hy : y + x < 9223372036854775808) (hd : y % 2 ^ k = 0) : bits .or .i64 (x : Int) (y : Int) = ((y + x : Nat) : Int) := by
  have lt : 2 ^ k ≤ 2 ^ 63 := Nat.pow_le_pow_right (by omega) hk
  have e : (BitVec.ofInt 64 (x : Int) ||| BitVec.ofInt 64 (y : Int)).toNat = y + x := by
    rw [BitVec.toNat_or, BitVec.ofInt_natCast, BitVec.ofInt_natCast, BitVec.toNat_ofNat, BitVec.toNat_ofNat, Nat.mod_eq_of_lt (by omega), Nat.mod_eq_of_lt (by omega)]
    have hm : y = 2 ^ k * (y / 2 ^ k) := by have := Nat.div_add_mod y (2 ^ k); omega
    rw [Nat.or_comm]
    conv => lhs; rw [hm]
    rw [← Nat.two_pow_add_eq_or_of_lt hx]
    omega
  show IntKind.i64.wrap ((BitVec.ofInt 64 (x : Int) ||| BitVec.ofInt 64 (y : Int)).toNat : Int) = _
  rw [e, IntKind.wrap_i64]
  omega
theorem or_i64_comm (x y : Int) : bits .or .i64 x y = bits .or .i64 y x := by
  show IntKind.i64.wrap ((BitVec.ofInt 64 x ||| BitVec.ofInt 64 y).toNat : Int) = IntKind.i64.wrap ((BitVec.ofInt 64 y ||| BitVec.ofInt 64 x).toNat : Int)
  rw [BitVec.or_comm]
end Go.Proofs.YtjdnpkicdmapnaaGreatDoor.K3
