/- Plain facts. No conditions. -/
import Derived.Test.YtgehbebjgmeccaaP2
import Derived.Lib.BitFns
set_option linter.unusedVariables false
set_option linter.unusedSimpArgs false
namespace Go.Proofs.Ytgehbebjgmeccaa.Fx
open Go Go.RowKit
theorem bitLen_bd : ∀ (n x : Nat), x ≤ n → x ≠ 0 → x < 2 ^ 64 → 1 ≤ Lib.bitLen x ∧ 2 ^ (Lib.bitLen x - 1) ≤ x ∧ x < 2 ^ Lib.bitLen x := by
  intro n
  induction n with
  | zero => intro x h h0; omega
  | succ n ih =>
    intro x h h0 hx
    by_cases h1 : x = 1
    · subst h1; decide
    · have hb := Lib.bitLen_half x h0 hx
      obtain ⟨a, b, c⟩ := ih (x / 2) (by omega) (by omega) (by omega)
      rw [hb]
      generalize Lib.bitLen (x / 2) = k at *
      obtain ⟨j, rfl⟩ : ∃ j, k = j + 1 := ⟨k - 1, by omega⟩
      refine ⟨by omega, ?_, ?_⟩
      · rw [show 1 + (j + 1) - 1 = j + 1 by omega, Nat.pow_succ]; simp at b; omega
      · rw [show 1 + (j + 1) = (j + 1) + 1 by omega, Nat.pow_succ]; omega
/-- the shift that brings the highest bit to its place -/
theorem norm_shift (y : Int) (h0 : 1 ≤ y) (h1 : y < 18446744073709551616) : ∃ s : Nat, s ≤ 63 ∧ (64 : Int) - (Lib.bitLen y.toNat : Int) = s ∧ 9223372036854775808 ≤ y * 2 ^ s ∧ y * 2 ^ s < 18446744073709551616 := by
  obtain ⟨n, rfl⟩ := Int.eq_ofNat_of_zero_le (show 0 ≤ y by omega)
  rw [Int.toNat_natCast]
  obtain ⟨a, b, c⟩ := bitLen_bd n n (Nat.le_refl _) (by omega) (by omega)
  generalize Lib.bitLen n = k at *
  have k64 : k ≤ 64 := by
    rcases Nat.lt_or_ge 64 k with h | h
    · have : 2 ^ 64 ≤ 2 ^ (k - 1) := Nat.pow_le_pow_right (by omega) (by omega)
      omega
    · exact h
  refine ⟨64 - k, by omega, by omega, ?_, ?_⟩
  · have : 2 ^ (k - 1) * 2 ^ (64 - k) ≤ n * 2 ^ (64 - k) := Nat.mul_le_mul_right _ b
    rw [← Nat.pow_add, show k - 1 + (64 - k) = 63 by omega, show (2 : Nat) ^ 63 = 9223372036854775808 by decide] at this
    have h := Int.ofNat_le.2 this
    rw [Int.natCast_mul, Int.natCast_pow] at h
    exact h
  · have : n * 2 ^ (64 - k) < 2 ^ k * 2 ^ (64 - k) := Nat.mul_lt_mul_of_pos_right c (Nat.two_pow_pos _)
    rw [← Nat.pow_add, show k + (64 - k) = 64 by omega, show (2 : Nat) ^ 64 = 18446744073709551616 by decide] at this
    have h := Int.ofNat_lt.2 this
    rw [Int.natCast_mul, Int.natCast_pow] at h
    exact h
/-- an estimate of a limb of the quotient of U * 2^32 + u by y = a * 2^32 + b -/
structure Est (U u a b q r : Int) : Prop where
  e : q * a + r = U
  r0 : 0 ≤ r
  r1 : r < 4294967296
  q0 : 0 ≤ q
  q1 : q ≤ 4294967297
  ge : (U * 4294967296 + u) / (a * 4294967296 + b) ≤ q
/-- what is given -/
structure Giv (U u a b : Int) : Prop where
  a0 : 2147483648 ≤ a
  a1 : a < 4294967296
  b0 : 0 ≤ b
  b1 : b < 4294967296
  u0 : 0 ≤ u
  u1 : u < 4294967296
  U0 : 0 ≤ U
  U1 : U < a * 4294967296 + b
theorem est_start {U u a b : Int} (g : Giv U u a b) : Est U u a b (U / a) (U - U / a * a) ∧ U - U / a * a = U % a := by
  obtain ⟨a0, a1, b0, b1, u0, u1, U0, U1⟩ := g
  have e := Int.mul_ediv_add_emod U a
  have r0 := Int.emod_nonneg U (show a ≠ 0 by omega)
  have r1 := Int.emod_lt_of_pos U (show 0 < a by omega)
  have e' : U - U / a * a = U % a := by rw [Int.mul_comm]; omega
  refine ⟨⟨by omega, by omega, by omega, Int.ediv_nonneg U0 (by omega), ?_, ?_⟩, e'⟩
  · have : U / a < 4294967298 := Int.ediv_lt_of_lt_mul (by omega) (by omega)
    omega
  · rw [← Int.lt_add_one_iff]
    refine Int.ediv_lt_of_lt_mul (by omega) ?_
    have q := Int.lt_ediv_add_one_mul_self U (show 0 < a by omega)
    have p0 : 0 ≤ U / a := Int.ediv_nonneg U0 (by omega)
    have p1 : 0 ≤ (U / a + 1) * b := Int.mul_nonneg (by omega) b0
    have e2 : (U / a + 1) * (a * 4294967296 + b) = (U / a + 1) * a * 4294967296 + (U / a + 1) * b := by grind
    rw [e2]
    generalize (U / a + 1) * a = X at *
    generalize (U / a + 1) * b = Y at *
    omega
theorem est_lt {U u a b : Int} (g : Giv U u a b) : (U * 4294967296 + u) / (a * 4294967296 + b) < 4294967296 ∧ 0 ≤ (U * 4294967296 + u) / (a * 4294967296 + b) := by
  obtain ⟨a0, a1, b0, b1, u0, u1, U0, U1⟩ := g
  exact ⟨Int.ediv_lt_of_lt_mul (by omega) (by omega), Int.ediv_nonneg (by omega) (by omega)⟩
theorem est_prod {U u a b q r : Int} (g : Giv U u a b) (h : Est U u a b q r) : 0 ≤ q * b ∧ q * b < 18446744073709551616 ∧ q * (a * 4294967296 + b) = (U - r) * 4294967296 + q * b := by
  refine ⟨Int.mul_nonneg h.q0 g.b0, ?_, ?_⟩
  · have := Int.mul_le_mul h.q1 (show b ≤ 4294967295 by have := g.b1; omega) g.b0 (by omega)
    omega
  · have := h.e
    have e2 : q * (a * 4294967296 + b) = q * a * 4294967296 + q * b := by grind
    rw [e2, show q * a = U - r by omega]
/-- the estimate is right -/
theorem est_done {U u a b q r : Int} (g : Giv U u a b) (h : Est U u a b q r) (hc : ¬ (4294967296 ≤ q)) (hd : ¬ (4294967296 * r + u < q * b)) : q = (U * 4294967296 + u) / (a * 4294967296 + b) := by
  obtain ⟨p0, p1, p2⟩ := est_prod g h
  have ge := h.ge
  have : q ≤ (U * 4294967296 + u) / (a * 4294967296 + b) := by
    have := g.a0; have := g.b0
    exact (Int.le_ediv_iff_mul_le (by omega)).2 (by rw [p2]; omega)
  omega
/-- it is one too great at least -/
theorem est_more {U u a b q r : Int} (g : Giv U u a b) (h : Est U u a b q r) (hc : 4294967296 ≤ q ∨ 4294967296 * r + u < q * b) : (U * 4294967296 + u) / (a * 4294967296 + b) ≤ q - 1 ∧ 1 ≤ q ∧ (r + a < 4294967296 → Est U u a b (q - 1) (r + a)) ∧ (4294967296 ≤ r + a → q - 1 = (U * 4294967296 + u) / (a * 4294967296 + b)) := by
  obtain ⟨p0, p1, p2⟩ := est_prod g h
  obtain ⟨l1, l0⟩ := est_lt g
  have ge := h.ge
  have k1 : (U * 4294967296 + u) / (a * 4294967296 + b) ≤ q - 1 := by
    rcases hc with hc | hc
    · omega
    · have : (U * 4294967296 + u) / (a * 4294967296 + b) < q := by
        have := g.a0; have := g.b0
        exact Int.ediv_lt_of_lt_mul (by omega) (by rw [p2]; omega)
      omega
  have e' : (q - 1) * a + (r + a) = U := by have := h.e; rw [Int.sub_mul]; omega
  have hq := h.q1; have hq0 := h.q0; have hr := h.r0; have ha := g.a0
  refine ⟨k1, by omega, fun hlt => ⟨e', by omega, hlt, by omega, by omega, k1⟩, fun hge => ?_⟩
  have : q - 1 ≤ (U * 4294967296 + u) / (a * 4294967296 + b) := by
    have hb1 := g.b1; have hb0 := g.b0; have hu := g.u0
    refine (Int.le_ediv_iff_mul_le (by omega)).2 ?_
    have m := Int.mul_le_mul (show q - 1 ≤ 4294967296 by omega) (show b ≤ 4294967295 by omega) hb0 (by omega)
    have e2 : (q - 1) * (a * 4294967296 + b) = (U - (r + a)) * 4294967296 + (q - 1) * b := by
      have e3 : (q - 1) * (a * 4294967296 + b) = (q - 1) * a * 4294967296 + (q - 1) * b := by grind
      rw [e3, show (q - 1) * a = U - (r + a) by omega]
    rw [e2]; omega
  omega
end Go.Proofs.Ytgehbebjgmeccaa.Fx
