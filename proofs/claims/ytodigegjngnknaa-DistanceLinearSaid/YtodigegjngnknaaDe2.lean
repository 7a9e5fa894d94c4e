/- Plain facts and contracts of functions of the program, out of walks. Their conditions stand ahead of each. -/
import Derived.WalkKit
set_option linter.unusedVariables false
set_option linter.unusedSimpArgs false
namespace Go.Proofs.Ytodigegjngnknaa.K3
open Go
open Go Go.RowKit
theorem wrap_bv32 (x : BitVec 32) : IntKind.u32.wrap (x.toNat : Int) = (x.toNat : Int) := by
  rw [IntKind.wrap_u32]; have := x.isLt; omega
theorem or32 (x y : Int) : bits .or .u32 x y = ((BitVec.ofInt 32 x ||| BitVec.ofInt 32 y).toNat : Int) := wrap_bv32 _
theorem and32 (x y : Int) : bits .and .u32 x y = ((BitVec.ofInt 32 x &&& BitVec.ofInt 32 y).toNat : Int) := wrap_bv32 _
theorem xor32 (x y : Int) : bits .xor .u32 x y = ((BitVec.ofInt 32 x ^^^ BitVec.ofInt 32 y).toNat : Int) := wrap_bv32 _
theorem back32 (b : BitVec 32) : BitVec.ofInt 32 (b.toNat : Int) = b := by
  apply BitVec.eq_of_toNat_eq
  rw [BitVec.ofInt_natCast, BitVec.toNat_ofNat]
  exact Nat.mod_eq_of_lt b.isLt
theorem top32 (b : BitVec 32) : (b.toNat : Int) / 2147483648 = if b.msb then 1 else 0 := by
  rw [BitVec.msb_eq_decide]
  have := b.isLt
  by_cases h : 2 ^ (32 - 1) ≤ b.toNat
  · rw [decide_eq_true h]; simp; omega
  · rw [decide_eq_false h]; simp; omega
theorem msbN (x : Nat) (h : x < 4294967296) : (BitVec.ofInt 32 (x : Int)).msb = decide (2147483648 ≤ x) := by
  rw [BitVec.msb_eq_decide, BitVec.ofInt_natCast, BitVec.toNat_ofNat, Nat.mod_eq_of_lt (by omega)]
theorem borrow32 (x y c : Nat) (hx : x < 4294967296) (hy : y < 4294967296) (hc : c ≤ 1) :
    bits .or .u32 (bits .and .u32 (bits .xor .u32 IntKind.u32.max (x : Int)) (y : Int)) (bits .and .u32 (bits .xor .u32 IntKind.u32.max (bits .xor .u32 (x : Int) (y : Int))) (((x : Int) - (y : Int) - (c : Int)) % 4294967296)) / 2147483648 = ((if x < y + c then 1 else 0 : Nat) : Int) := by
  obtain ⟨d, hd, hd1⟩ : ∃ d : Nat, ((x : Int) - y - c) % 4294967296 = (d : Int) ∧ d < 4294967296 := ⟨(((x : Int) - y - c) % 4294967296).toNat, by omega, by omega⟩
  rw [hd]
  have hm : (BitVec.ofInt 32 IntKind.u32.max).msb = true := by decide
  simp only [or32, and32, xor32, back32, top32, BitVec.msb_or, BitVec.msb_and, BitVec.msb_xor, msbN x hx, msbN y hy, msbN d hd1, hm]
  by_cases a : 2147483648 ≤ x <;> by_cases b : 2147483648 ≤ y <;> by_cases e : 2147483648 ≤ d <;> simp [a, b, e] <;> (split <;> omega)
/-- numbers that share no bit: or is the sum -/
theorem or32_add (x y k : Nat) (hk : k ≤ 32) (hx : x < 2 ^ k) (hy : y < 4294967296) (hd : y % 2 ^ k = 0) : bits .or .u32 (x : Int) (y : Int) = ((y + x : Nat) : Int) := by
  have lt : 2 ^ k ≤ 2 ^ 32 := Nat.pow_le_pow_right (by omega) hk
  rw [or32]
  congr 1
  rw [BitVec.toNat_or, BitVec.ofInt_natCast, BitVec.ofInt_natCast, BitVec.toNat_ofNat, BitVec.toNat_ofNat, Nat.mod_eq_of_lt (by omega), Nat.mod_eq_of_lt (by omega)]
  have hm : y = 2 ^ k * (y / 2 ^ k) := by have := Nat.div_add_mod y (2 ^ k); omega
  rw [Nat.or_comm]
  conv => lhs; rw [hm]
  rw [← Nat.two_pow_add_eq_or_of_lt hx]
  omega
theorem wrap_bv64 (x : BitVec 64) : IntKind.u64.wrap (x.toNat : Int) = (x.toNat : Int) := by
  rw [IntKind.wrap_u64]; have := x.isLt; omega
theorem or64 (x y : Int) : bits .or .u64 x y = ((BitVec.ofInt 64 x ||| BitVec.ofInt 64 y).toNat : Int) := wrap_bv64 _
theorem or64_add (x y k : Nat) (hk : k ≤ 64) (hx : x < 2 ^ k) (hy : y < 18446744073709551616) (hd : y % 2 ^ k = 0) : bits .or .u64 (x : Int) (y : Int) = ((y + x : Nat) : Int) := by
  have lt : 2 ^ k ≤ 2 ^ 64 := Nat.pow_le_pow_right (by omega) hk
  rw [or64]
  congr 1
  rw [BitVec.toNat_or, BitVec.ofInt_natCast, BitVec.ofInt_natCast, BitVec.toNat_ofNat, BitVec.toNat_ofNat, Nat.mod_eq_of_lt (by omega), Nat.mod_eq_of_lt (by omega)]
  have hm : y = 2 ^ k * (y / 2 ^ k) := by have := Nat.div_add_mod y (2 ^ k); omega
  rw [Nat.or_comm]
  conv => lhs; rw [hm]
  rw [← Nat.two_pow_add_eq_or_of_lt hx]
  omega
theorem or64_comm (x y : Int) : bits .or .u64 x y = bits .or .u64 y x := by rw [or64, or64, BitVec.or_comm]
theorem or32_comm (x y : Int) : bits .or .u32 x y = bits .or .u32 y x := by rw [or32, or32, BitVec.or_comm]
end Go.Proofs.Ytodigegjngnknaa.K3
namespace Go.Proofs.Ytodigegjngnknaa.K3
open Go
open Go Go.RowKit
theorem or_i64_add (x y k : Nat) (hk : k ≤ 63) (hx : x < 2 ^ k) (hy : y + x < 9223372036854775808) (hd : y % 2 ^ k = 0) : bits .or .i64 (x : Int) (y : Int) = ((y + x : Nat) : Int) := by
  have lt : 2 ^ k ≤ 2 ^ 63 := Nat.pow_le_pow_right (by omega) hk
  have e : (BitVec.ofInt 64 (x : Int) ||| BitVec.ofInt 64 (y : Int)).toNat = y + x := by
    rw [BitVec.toNat_or, BitVec.ofInt_natCast, BitVec.ofInt_natCast, BitVec.toNat_ofNat, BitVec.toNat_ofNat, Nat.mod_eq_of_lt (by omega), Nat.mod_eq_of_lt (by omega)]
    have hm : y = 2 ^ k * (y / 2 ^ k) := by have := Nat.div_add_mod y (2 ^ k); omega
    rw [Nat.or_comm]
    conv => lhs; rw [hm]
    rw [← Nat.two_pow_add_eq_or_of_lt hx]
    omega
  show IntKind.i64.wrap ((BitVec.ofInt 64 (x : Int) ||| BitVec.ofInt 64 (y : Int)).toNat : Int) = _
  rw [e, IntKind.wrap_i64]
  omega
theorem or_i64_comm (x y : Int) : bits .or .i64 x y = bits .or .i64 y x := by
  show IntKind.i64.wrap ((BitVec.ofInt 64 x ||| BitVec.ofInt 64 y).toNat : Int) = IntKind.i64.wrap ((BitVec.ofInt 64 y ||| BitVec.ofInt 64 x).toNat : Int)
  rw [BitVec.or_comm]
end Go.Proofs.Ytodigegjngnknaa.K3
namespace Go.Proofs.Ytodigegjngnknaa.K
open Go Go.RowKit
theorem u64not (x : Int) (h0 : 0 ≤ x) (h1 : x < 18446744073709551616) : bits .xor .u64 IntKind.u64.max x = 18446744073709551615 - x := by
  obtain ⟨n, rfl⟩ := Int.eq_ofNat_of_zero_le h0
  have hn : n < 2 ^ 64 := by omega
  have e : IntKind.u64.max = 18446744073709551615 := by rfl
  rw [e]
  show IntKind.u64.wrap ((BitVec.ofInt 64 18446744073709551615 ^^^ BitVec.ofInt 64 (n : Int)).toNat : Nat) = _
  have e2 : BitVec.ofInt 64 18446744073709551615 = BitVec.allOnes 64 := by decide
  rw [e2, BitVec.allOnes_xor, BitVec.toNat_not, BitVec.ofInt_natCast, BitVec.toNat_ofNat, Nat.mod_eq_of_lt hn, IntKind.wrap_u64]
  omega
end Go.Proofs.Ytodigegjngnknaa.K
namespace Go.Proofs.Ytodigegjngnknaa.K
open Go Go.RowKit
theorem wrap_bv (x : BitVec 64) : IntKind.i64.wrap (x.toNat : Int) = x.toInt := by
  rw [IntKind.wrap_i64, BitVec.toInt_eq_toNat_cond]
  have := x.isLt
  split <;> omega
theorem ofInt_neg (x : Int) (h0 : -9223372036854775808 ≤ x) (h1 : x ≤ 9223372036854775807) : (BitVec.ofInt 64 x).msb = decide (x < 0) := by
  rw [BitVec.msb_eq_toInt, BitVec.toInt_ofInt, Int.bmod_def]
  congr 1
  apply propext
  split <;> omega
theorem i64xor_neg (x y : Int) (h0 : -9223372036854775808 ≤ x ∧ x ≤ 9223372036854775807) (h1 : -9223372036854775808 ≤ y ∧ y ≤ 9223372036854775807) :
    (bits .xor .i64 x y < 0 ↔ (¬ (x < 0 ↔ y < 0))) ∧ -9223372036854775808 ≤ bits .xor .i64 x y ∧ bits .xor .i64 x y ≤ 9223372036854775807 := by
  have e : bits .xor .i64 x y = (BitVec.ofInt 64 x ^^^ BitVec.ofInt 64 y).toInt := wrap_bv _
  refine ⟨?_, ?_⟩
  · have m := BitVec.msb_eq_toInt (x := BitVec.ofInt 64 x ^^^ BitVec.ofInt 64 y)
    rw [BitVec.msb_xor, ofInt_neg x h0.1 h0.2, ofInt_neg y h1.1 h1.2, ← e] at m
    by_cases a : x < 0 <;> by_cases b : y < 0 <;> simp [a, b] at m ⊢ <;> omega
  · rw [e]; have := BitVec.le_toInt (BitVec.ofInt 64 x ^^^ BitVec.ofInt 64 y); have := BitVec.toInt_lt (x := BitVec.ofInt 64 x ^^^ BitVec.ofInt 64 y); omega
theorem i64and_neg (x y : Int) (h0 : -9223372036854775808 ≤ x ∧ x ≤ 9223372036854775807) (h1 : -9223372036854775808 ≤ y ∧ y ≤ 9223372036854775807) :
    (bits .and .i64 x y < 0 ↔ (x < 0 ∧ y < 0)) := by
  have e : bits .and .i64 x y = (BitVec.ofInt 64 x &&& BitVec.ofInt 64 y).toInt := wrap_bv _
  have m := BitVec.msb_eq_toInt (x := BitVec.ofInt 64 x &&& BitVec.ofInt 64 y)
  rw [BitVec.msb_and, ofInt_neg x h0.1 h0.2, ofInt_neg y h1.1 h1.2, ← e] at m
  by_cases a : x < 0 <;> by_cases b : y < 0 <;> simp [a, b] at m ⊢ <;> omega
/-- The sign test of a sum. -/
theorem over_test (a b h : Int) (ha : -9223372036854775808 ≤ a ∧ a ≤ 9223372036854775807) (hb : -9223372036854775808 ≤ b ∧ b ≤ 9223372036854775807) (hh : -9223372036854775808 ≤ h ∧ h ≤ 9223372036854775807) :
    bits .and .i64 (bits .xor .i64 a h) (bits .xor .i64 b h) < 0 ↔ (¬ (a < 0 ↔ h < 0)) ∧ (¬ (b < 0 ↔ h < 0)) := by
  have p := i64xor_neg a h ha hh
  have q := i64xor_neg b h hb hh
  rw [i64and_neg _ _ p.2 q.2, p.1, q.1]
theorem u64or_add (x y : Int) (k : Nat) (hk : k ≤ 64) (x0 : 0 ≤ x) (x1 : x < (2 : Int) ^ k) (y0 : 0 ≤ y) (y1 : y < 18446744073709551616) (hy : y % (2 : Int) ^ k = 0) : bits .or .u64 x y = y + x := by
  obtain ⟨n, rfl⟩ := Int.eq_ofNat_of_zero_le x0
  obtain ⟨m, rfl⟩ := Int.eq_ofNat_of_zero_le y0
  have x1' : n < 2 ^ k := by exact_mod_cast x1
  have hy' : m % 2 ^ k = 0 := by exact_mod_cast hy
  have lt : 2 ^ k ≤ 2 ^ 64 := Nat.pow_le_pow_right (by omega) hk
  have e1 : (BitVec.ofInt 64 (n : Int)).toNat = n := by rw [BitVec.ofInt_natCast, BitVec.toNat_ofNat]; exact Nat.mod_eq_of_lt (by omega)
  have e2 : (BitVec.ofInt 64 (m : Int)).toNat = m := by rw [BitVec.ofInt_natCast, BitVec.toNat_ofNat]; exact Nat.mod_eq_of_lt (by omega)
  have lo : (BitVec.ofInt 64 (n : Int) ||| BitVec.ofInt 64 (m : Int)).toNat < 2 ^ 64 := BitVec.isLt _
  show IntKind.u64.wrap ((BitVec.ofInt 64 (n : Int) ||| BitVec.ofInt 64 (m : Int)).toNat : Nat) = _
  rw [IntKind.wrap_u64]
  rw [BitVec.toNat_or, e1, e2] at lo ⊢
  have hm : m = 2 ^ k * (m / 2 ^ k) := by have := Nat.div_add_mod m (2 ^ k); omega
  have e3 : n ||| m = m + n := by
    rw [Nat.or_comm]
    conv => lhs; rw [hm]
    rw [← Nat.two_pow_add_eq_or_of_lt x1']
    omega
  rw [e3] at lo ⊢
  omega
end Go.Proofs.Ytodigegjngnknaa.K
namespace Go.Proofs.Ytodigegjngnknaa.Fx
open Go Go.RowKit
def in128 (s : Int) : Prop := -170141183460469231731687303715884105728 ≤ s ∧ s ≤ 170141183460469231731687303715884105727
open Classical in
noncomputable def ovE (s : Int) : Int := if in128 s then 0 else 5
open Classical in
noncomputable def ovH (s : Int) : Int := if in128 s then s / 18446744073709551616 else 0
open Classical in
noncomputable def ovL (s : Int) : Int := if in128 s then s % 18446744073709551616 else 0
theorem ov_yes {s : Int} (h : in128 s) : ovE s = 0 ∧ ovH s = s / 18446744073709551616 ∧ ovL s = s % 18446744073709551616 := by unfold ovE ovH ovL; rw [if_pos h, if_pos h, if_pos h]; exact ⟨rfl, rfl, rfl⟩
theorem ov_no {s : Int} (h : ¬ in128 s) : ovE s = 5 ∧ ovH s = 0 ∧ ovL s = 0 := by unfold ovE ovH ovL; rw [if_neg h, if_neg h, if_neg h]; exact ⟨rfl, rfl, rfl⟩
/-- the word of a wide number -/
def R64 (a : Int) : Prop := -9223372036854775808 ≤ a ∧ a ≤ 9223372036854775807
def U64 (a : Int) : Prop := 0 ≤ a ∧ a < 18446744073709551616
def wd (a b : Int) : Int := a * 18446744073709551616 + b
theorem plus_plain (a0 a1 b0 b1 c r H : Int) (h1 : R64 a0) (h2 : U64 a1) (h3 : R64 b0) (h4 : U64 b1) (hc : c = (a1 + b1) / 18446744073709551616) (hr : r = (a1 + b1) % 18446744073709551616) (hH : H = wrap64 (wrap64 (a0 + b0) + c)) :
    R64 H ∧ 0 ≤ c ∧ c ≤ 1 ∧ (((¬ (a0 < 0 ↔ H < 0)) ∧ (¬ (b0 < 0 ↔ H < 0))) ↔ ¬ in128 (wd a0 a1 + wd b0 b1)) ∧ (in128 (wd a0 a1 + wd b0 b1) → H = (wd a0 a1 + wd b0 b1) / 18446744073709551616 ∧ r = (wd a0 a1 + wd b0 b1) % 18446744073709551616) := by
  unfold R64 U64 in128 wd wrap64 at *
  refine ⟨by omega, by omega, by omega, ?_, fun h => ⟨by omega, by omega⟩⟩
  constructor
  · intro h; omega
  · intro h; omega
theorem minus_plain (a0 a1 b0 b1 c r H : Int) (h1 : R64 a0) (h2 : U64 a1) (h3 : R64 b0) (h4 : U64 b1) (hc : c = if a1 < b1 then 1 else 0) (hr : r = (a1 - b1) % 18446744073709551616) (hH : H = wrap64 (wrap64 (a0 - b0) - c)) :
    R64 H ∧ 0 ≤ c ∧ c ≤ 1 ∧ (((¬ (a0 < 0 ↔ b0 < 0)) ∧ (¬ (a0 < 0 ↔ H < 0))) ↔ ¬ in128 (wd a0 a1 - wd b0 b1)) ∧ (in128 (wd a0 a1 - wd b0 b1) → H = (wd a0 a1 - wd b0 b1) / 18446744073709551616 ∧ r = (wd a0 a1 - wd b0 b1) % 18446744073709551616) := by
  unfold R64 U64 in128 wd wrap64 at *
  split at hc <;> refine ⟨by omega, by omega, by omega, ?_, fun h => ⟨by omega, by omega⟩⟩ <;> constructor <;> intro h <;> omega
theorem ov_w {s : Int} (h : in128 s) : R64 (ovH s) ∧ U64 (ovL s) ∧ wd (ovH s) (ovL s) = s ∧ ovE s = 0 := by
  have e := ov_yes h
  rw [e.1, e.2.1, e.2.2]
  unfold R64 U64 wd in128 at *
  refine ⟨by omega, by omega, by omega, rfl⟩
theorem wd_dm (p : Int) : wd (p / 18446744073709551616) (p % 18446744073709551616) = p := by unfold wd; omega
theorem dm_rng {p : Int} (h : in128 p) : R64 (p / 18446744073709551616) ∧ U64 (p % 18446744073709551616) := by unfold R64 U64 in128 at *; omega
theorem ov_of {A B : Int} (hA : R64 A) (hB : U64 B) : in128 (wd A B) ∧ ovH (wd A B) = A ∧ ovL (wd A B) = B ∧ ovE (wd A B) = 0 := by
  have h : in128 (wd A B) := by unfold R64 U64 wd in128 at *; omega
  have e := ov_yes h
  refine ⟨h, ?_, ?_, e.1⟩
  · rw [e.2.1]; unfold R64 U64 wd at *; omega
  · rw [e.2.2]; unfold R64 U64 wd at *; omega
open Classical in
noncomputable def nwE (s : Int) : Int := if R64 s then 0 else 5
open Classical in
noncomputable def nwV (s : Int) : Int := if R64 s then s else 0
theorem nw_yes {s : Int} (h : R64 s) : nwE s = 0 ∧ nwV s = s := by unfold nwE nwV; rw [if_pos h, if_pos h]; exact ⟨rfl, rfl⟩
theorem nw_no {s : Int} (h : ¬ R64 s) : nwE s = 5 ∧ nwV s = 0 := by unfold nwE nwV; rw [if_neg h, if_neg h]; exact ⟨rfl, rfl⟩
theorem narrow_plain (a b : Int) (h1 : R64 a) (h2 : U64 b) : (a = wrap64 b / 9223372036854775808 ↔ R64 (wd a b)) ∧ (R64 (wd a b) → wrap64 b = wd a b) ∧ ((a = 0 ∧ 0 ≤ wrap64 b) ∨ (a = -1 ∧ wrap64 b < 0) ↔ R64 (wd a b)) := by
  unfold R64 U64 wd wrap64 at *
  refine ⟨⟨fun h => by omega, fun h => by omega⟩, fun h => by omega, ⟨fun h => by omega, fun h => by omega⟩⟩
theorem sq_in (x : Int) (h : R64 x) : 0 ≤ x * x ∧ x * x ≤ 85070591730234615865843651857942052864 := by
  unfold R64 at h
  by_cases g : 0 ≤ x
  · refine ⟨Int.mul_nonneg g g, ?_⟩
    have := Int.mul_le_mul (show x ≤ 9223372036854775808 by omega) (show x ≤ 9223372036854775808 by omega) g (by omega)
    omega
  · have e : x * x = (-x) * (-x) := by rw [Int.neg_mul_neg]
    rw [e]
    refine ⟨Int.mul_nonneg (by omega) (by omega), ?_⟩
    have := Int.mul_le_mul (show -x ≤ 9223372036854775808 by omega) (show -x ≤ 9223372036854775808 by omega) (by omega) (by omega)
    omega
end Go.Proofs.Ytodigegjngnknaa.Fx
