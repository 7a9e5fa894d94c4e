/- Plain facts and contracts of functions of the program, out of walks. Their conditions stand ahead of each. -/
import Derived.Test.YtjdnpkicdmapnaaGreatDoorRb2
import Derived.Test.YtjdnpkicdmapnaaGreatDoorRb4
import Derived.Lib.BitFns
import Derived.Lib.ItoaNum
set_option linter.unusedVariables false
set_option linter.unusedSimpArgs false
set_option exponentiation.threshold 10000
namespace Go.Proofs.YtjdnpkicdmapnaaGreatDoor.NL
open Go
/-- the limbs at even places below k, and those at odd ones -/
def evl (l : List Nat) : Nat → List Nat
  | 0 => []
  | k + 1 => if k % 2 = 0 then evl l k ++ [l.getD k 0] else evl l k
def odl (l : List Nat) : Nat → List Nat
  | 0 => []
  | k + 1 => if k % 2 = 0 then odl l k else odl l k ++ [l.getD k 0]
theorem evl_even (l : List Nat) {k : Nat} (h : k % 2 = 0) : evl l (k + 1) = evl l k ++ [l.getD k 0] := by rw [evl, if_pos h]
theorem evl_odd (l : List Nat) {k : Nat} (h : k % 2 = 1) : evl l (k + 1) = evl l k := by rw [evl, if_neg (by omega)]
theorem odl_even (l : List Nat) {k : Nat} (h : k % 2 = 0) : odl l (k + 1) = odl l k := by rw [odl, if_pos h]
theorem odl_odd (l : List Nat) {k : Nat} (h : k % 2 = 1) : odl l (k + 1) = odl l k ++ [l.getD k 0] := by rw [odl, if_neg (by omega)]
theorem evl_len (l : List Nat) (k : Nat) : (evl l k).length = (k + 1) / 2 := by
  induction k with
  | zero => rfl
  | succ k ih =>
    rw [evl]; split
    · rw [List.length_append, ih, List.length_singleton]; omega
    · rw [ih]; omega
theorem odl_len (l : List Nat) (k : Nat) : (odl l k).length = k / 2 := by
  induction k with
  | zero => rfl
  | succ k ih =>
    rw [odl]; split
    · rw [ih]; omega
    · rw [List.length_append, ih, List.length_singleton]; omega
theorem evl_ok {l : List Nat} (h : Ok l) (k : Nat) : Ok (evl l k) := by
  induction k with
  | zero => exact Ok.nil
  | succ k ih =>
    rw [evl]; split
    · exact ih.append (Ok.cons (h.getD k) Ok.nil)
    · exact ih
theorem odl_ok {l : List Nat} (h : Ok l) (k : Nat) : Ok (odl l k) := by
  induction k with
  | zero => exact Ok.nil
  | succ k ih =>
    rw [odl]; split
    · exact ih
    · exact ih.append (Ok.cons (h.getD k) Ok.nil)
/-- the number -/
def vq (s : Bool) (l : List Nat) : Rat := frac s (val (evl l (min l.length 16))) (val (odl l (min l.length 16) ++ [1]))
theorem val_one (l : List Nat) : val (l ++ [1]) ≠ 0 := by
  induction l with
  | nil => decide
  | cons x l ih => simp only [List.cons_append, val]; omega
theorem trim_one (l : List Nat) : Trim (l ++ [1]) := by
  intro k hk
  rw [List.length_append, List.length_singleton] at hk
  obtain rfl : k = l.length := by omega
  simp
theorem limbs_with_one {l : List Nat} (h : Ok l) : limbs (val (l ++ [1])) = l ++ [1] := limbs_val (h.append (Ok.cons (by decide) Ok.nil)) (trim_one l)
theorem vq_bd (s : Bool) {l : List Nat} (h : Ok l) : Bd 288 (vq s l) := by
  have hm : min l.length 16 ≤ 16 := Nat.min_le_right _ _
  have h1 := val_lt (evl_ok h (min l.length 16))
  have h2 := val_lt ((odl_ok h (min l.length 16)).append (Ok.cons (show 1 < 4294967296 by decide) Ok.nil))
  rw [evl_len] at h1
  rw [List.length_append, List.length_singleton, odl_len] at h2
  have e : ∀ k, k ≤ 9 → 4294967296 ^ k ≤ 2 ^ 288 := fun k hk => by
    rw [show (4294967296 : Nat) = 2 ^ 32 from rfl, ← Nat.pow_mul]
    exact Nat.pow_le_pow_right (by decide) (by omega)
  exact Bd.frac s (val_one _) (Nat.lt_of_lt_of_le h1 (e _ (by omega))) (Nat.lt_of_lt_of_le h2 (e _ (by omega)))
end Go.Proofs.YtjdnpkicdmapnaaGreatDoor.NL
