/- Plain facts and contracts of functions of the program, out of walks. Their conditions stand ahead of each. -/
import Derived.Test.YtfifcpgjcgoinaaQ2
import Derived.Lib.BitFns
import Derived.Lib.ItoaNum
set_option linter.unusedVariables false
set_option linter.unusedSimpArgs false
namespace Go.Proofs.Ytfifcpgjcgoinaa.NL
open Go
/-- the number of bits -/
def nb (v : Nat) : Nat := if v = 0 then 0 else Nat.log2 v + 1
theorem nb_le (v k : Nat) : nb v ≤ k ↔ v < 2 ^ k := by
  unfold nb
  by_cases h : v = 0
  · rw [if_pos h, h]; exact ⟨fun _ => Nat.two_pow_pos k, fun _ => Nat.zero_le _⟩
  · rw [if_neg h]
    exact (Nat.log2_lt h)
theorem nb_zero : nb 0 = 0 := rfl
theorem nb_pos {v : Nat} (h : v ≠ 0) : 0 < nb v := by unfold nb; rw [if_neg h]; omega
theorem nb_ge {v : Nat} (h : v ≠ 0) : 2 ^ (nb v - 1) ≤ v := by
  rcases Nat.lt_or_ge v (2 ^ (nb v - 1)) with h1 | h1
  · have := (nb_le v _).2 h1
    have := nb_pos h
    omega
  · exact h1
theorem nb_lt (v : Nat) : v < 2 ^ nb v := (nb_le v _).1 (Nat.le_refl _)
theorem nb_uniq {v k : Nat} (h : v < 2 ^ k) (h2 : k = 0 ∨ 2 ^ (k - 1) ≤ v) : nb v = k := by
  have h1 := (nb_le v k).2 h
  rcases h2 with h2 | h2
  · omega
  · rcases Nat.lt_or_ge (nb v) k with h3 | h3
    · have := (nb_le v (k - 1)).1 (by omega); omega
    · omega
theorem nb_bitLen (x : Nat) (h : x < 4294967296) : Lib.bitLen x = nb x := by
  by_cases h0 : x = 0
  · subst h0; rfl
  · obtain ⟨h1, h2, h3⟩ := Lib.bitLenAux_bounds 64 x (by omega) h0
    exact (nb_uniq h3 (.inr h2)).symm
theorem pow32 (k : Nat) : 4294967296 ^ k = 2 ^ (32 * k) := by rw [Nat.pow_mul]
theorem nb_top {v m : Nat} (h : (limbs v).length = m + 1) : nb v = 32 * m + nb ((limbs v).getD m 0) := by
  have s := val_split (limbs v) m (by omega)
  rw [val_limbs, val_drop_getD, List.drop_of_length_le (by omega), show val [] = 0 from rfl, Nat.mul_zero, Nat.add_zero] at s
  have b := val_lt ((ok_limbs v).take m)
  rw [List.length_take, Nat.min_eq_left (by omega)] at b
  have t0 := trim_limbs v m h
  generalize (limbs v).getD m 0 = t at *
  generalize val ((limbs v).take m) = r at *
  have h1 := nb_lt t
  have h2 := nb_ge t0
  have h3 := nb_pos t0
  rw [pow32] at s b
  apply nb_uniq
  · rw [Nat.pow_add]
    have := Nat.mul_le_mul_left (2 ^ (32 * m)) (Nat.succ_le_of_lt h1)
    rw [Nat.mul_succ] at this
    omega
  · right
    rw [show 32 * m + nb t - 1 = 32 * m + (nb t - 1) by omega, Nat.pow_add]
    have := Nat.mul_le_mul_left (2 ^ (32 * m)) h2
    omega
theorem val_div (l : List Nat) (h : Ok l) (k : Nat) : val l / 4294967296 ^ k = val (l.drop k) := by
  induction k generalizing l with
  | zero => simp
  | succ k ih =>
    cases l with
    | nil => simp [val]
    | cons x l =>
      have hx := h.head
      rw [Nat.pow_succ, Nat.mul_comm, ← Nat.div_div_eq_div_mul, val, show (x + 4294967296 * val l) / 4294967296 = val l by omega, ih l h.tail, List.drop_succ_cons]
theorem getD_val (l : List Nat) (h : Ok l) (k : Nat) : l.getD k 0 = val l / 4294967296 ^ k % 4294967296 := by
  rw [val_div l h k, val_drop_getD]
  have := h.getD k
  omega
theorem val_mod (l : List Nat) (h : Ok l) (k : Nat) : val l % 4294967296 ^ k = val (l.take k) := by
  rcases Nat.lt_or_ge l.length k with hk | hk
  · rw [val_take_all (by omega)]
    exact Nat.mod_eq_of_lt (Nat.lt_of_lt_of_le (val_lt h) (Nat.pow_le_pow_right (by decide) (by omega)))
  · have s := val_split l k hk
    have b := val_lt (h.take k)
    rw [List.length_take, Nat.min_eq_left hk] at b
    rw [s, Nat.add_mul_mod_self_left, Nat.mod_eq_of_lt b]
end Go.Proofs.Ytfifcpgjcgoinaa.NL
