/- Plain facts and contracts of functions of the program, out of walks. Their conditions stand ahead of each. -/
import Derived.Test.YtjdnpkicdmapnaaGreatDoorRb4
import Derived.Lib.BitFns
import Derived.Lib.ItoaNum
import Derived.Lib.TrailingZeros
set_option linter.unusedVariables false
set_option linter.unusedSimpArgs false
namespace Go.Proofs.YtjdnpkicdmapnaaGreatDoor.NL
open Go
/-- how often 2 is in a number that is not 0 -/
def tz (v : Nat) : Nat := if h : v = 0 then 0 else if v % 2 = 1 then 0 else tz (v / 2) + 1
termination_by v
decreasing_by exact Nat.div_lt_self (Nat.pos_of_ne_zero h) (by decide)
/-- a number without its twos -/
def od (v : Nat) : Nat := v / 2 ^ tz v
theorem tz_spec (v : Nat) (h : v ≠ 0) : ∃ m, v = 2 ^ tz v * (2 * m + 1) := by
  induction v using Nat.strongRecOn with
  | ind v ih =>
    rw [tz, dif_neg h]
    by_cases h2 : v % 2 = 1
    · rw [if_pos h2]; exact ⟨v / 2, by omega⟩
    · rw [if_neg h2]
      obtain ⟨m, hm⟩ := ih (v / 2) (Nat.div_lt_self (Nat.pos_of_ne_zero h) (by decide)) (by omega)
      refine ⟨m, ?_⟩
      rw [Nat.pow_succ, Nat.mul_assoc, Nat.mul_comm 2, ← Nat.mul_assoc, ← hm]
      omega
theorem tz_uniq {v t m : Nat} (h : v = 2 ^ t * (2 * m + 1)) : tz v = t := by
  induction t generalizing v with
  | zero =>
    rw [tz, dif_neg (by omega), if_pos (by omega)]
  | succ t ih =>
    have h1 : v = 2 * (2 ^ t * (2 * m + 1)) := by rw [h, Nat.pow_succ]; rw [Nat.mul_comm (2 ^ t) 2, Nat.mul_assoc]
    have h0 : 0 < 2 ^ t * (2 * m + 1) := Nat.mul_pos (Nat.two_pow_pos t) (by omega)
    rw [tz, dif_neg (by omega), if_neg (by omega), ih (by omega : v / 2 = 2 ^ t * (2 * m + 1))]
theorem od_spec (v : Nat) (h : v ≠ 0) : v = 2 ^ tz v * od v ∧ od v % 2 = 1 := by
  obtain ⟨m, hm⟩ := tz_spec v h
  have : od v = 2 * m + 1 := by
    unfold od
    rw [Nat.div_eq_of_eq_mul_right (Nat.two_pow_pos _) hm]
  rw [this]
  exact ⟨hm, by omega⟩
theorem od_pos {v : Nat} (h : v ≠ 0) : od v ≠ 0 := by have := (od_spec v h).2; omega
theorem od_le (v : Nat) : od v ≤ v := Nat.div_le_self _ _
/-- the place of the lowest limb that is not 0 -/
theorem tz_limb {l : List Nat} (ho : Ok l) {i : Nat} (hz : ∀ j, j < i → l.getD j 0 = 0) (hi : l.getD i 0 ≠ 0) : tz (val l) = 32 * i + Lib.ctz 32 (l.getD i 0) ∧ Lib.ctz 32 (l.getD i 0) < 32 := by
  have hx := ho.getD i
  obtain ⟨m, hm, hk⟩ := Lib.ctzFrom_spec 32 (l.getD i 0) (by omega) (by omega)
  have hc : Lib.ctz 32 (l.getD i 0) = Lib.ctzFrom 32 (l.getD i 0) := by unfold Lib.ctz; rw [if_neg hi]
  rw [hc]
  refine ⟨?_, hk⟩
  have hlt : i < l.length := by
    rcases Nat.lt_or_ge i l.length with h | h
    · exact h
    · rw [List.getD_eq_getElem?_getD, List.getElem?_eq_none h] at hi; exact absurd rfl hi
  have h0 : val (l.take i) = 0 := by
    have : ∀ k, k ≤ i → val (l.take k) = 0 := by
      intro k
      induction k with
      | zero => intro _; rw [List.take_zero]; rfl
      | succ k ih => intro hk; rw [val_take_getD, ih (by omega), hz k (by omega)]; simp
    exact this i (Nat.le_refl _)
  have hs := val_split l i (by omega)
  rw [h0, Nat.zero_add, val_drop_getD] at hs
  generalize Lib.ctzFrom 32 (l.getD i 0) = k at *
  generalize l.getD i 0 = x at *
  generalize val (l.drop (i + 1)) = z at *
  have hp : (4294967296 : Nat) = 2 ^ k * (2 * 2 ^ (31 - k)) := by
    rw [← Nat.mul_assoc, Nat.mul_comm _ 2, ← Nat.pow_succ', ← Nat.pow_add, show k + 1 + (31 - k) = 32 by omega]
  apply tz_uniq (m := m + 2 ^ (31 - k) * z)
  rw [hs, pow32, Nat.pow_add, Nat.mul_assoc]
  congr 1
  have e1 : (4294967296 : Nat) * z = 2 ^ k * (2 * (2 ^ (31 - k) * z)) := by
    conv => lhs; rw [hp]
    rw [Nat.mul_assoc, Nat.mul_assoc]
  rw [e1]
  conv => lhs; rw [hm]
  rw [← Nat.mul_add]
  congr 1
  omega
end Go.Proofs.YtjdnpkicdmapnaaGreatDoor.NL
