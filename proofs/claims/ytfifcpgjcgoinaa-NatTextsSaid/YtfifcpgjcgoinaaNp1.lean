/- Plain facts on limbs. No conditions. -/
import Derived.Test.YtfifcpgjcgoinaaNl3
set_option linter.unusedVariables false
set_option linter.unusedSimpArgs false
namespace Go.Proofs.Ytfifcpgjcgoinaa.NL
open Go
/-- digits from the lowest: the number T's lowest k limbs -/
theorem mod_step {T k p x : Nat} (h : p = T % 4294967296 ^ k) (hx : x = T / 4294967296 ^ k % 4294967296) : p + 4294967296 ^ k * x = T % 4294967296 ^ (k + 1) := by
  rw [Nat.pow_succ, Nat.mod_mul, h, hx]
theorem low_step {pre : List Nat} {T k x : Nat} (hp : pre.length = k) (h : val pre = T % 4294967296 ^ k) (hx : x = T / 4294967296 ^ k % 4294967296) : val (pre ++ [x]) = T % 4294967296 ^ (k + 1) := by
  rw [val_snoc, hp]; exact mod_step h hx
/-- a limb of a number shifted down by less than a limb -/
theorem down_limb {l : List Nat} (h : Ok l) (k s : Nat) (hs : s < 32) : (l.getD k 0 + 4294967296 * l.getD (k + 1) 0) / 2 ^ s % 4294967296 = val l / 2 ^ s / 4294967296 ^ k % 4294967296 := by
  rw [Nat.div_div_eq_div_mul, Nat.mul_comm (2 ^ s), ← Nat.div_div_eq_div_mul, val_div l h k]
  have e := val_drop_getD l k
  have e2 := val_drop_getD l (k + 1)
  rw [e2] at e
  rw [e]
  generalize val (l.drop (k + 1 + 1)) = z
  generalize l.getD k 0 = x
  generalize l.getD (k + 1) 0 = y
  have hd : (4294967296 : Nat) * 4294967296 = 2 ^ s * (2 ^ (32 - s) * 4294967296) := by
    rw [← Nat.mul_assoc, ← Nat.pow_add, show s + (32 - s) = 32 by omega]
  have : x + 4294967296 * (y + 4294967296 * z) = (x + 4294967296 * y) + 2 ^ s * (4294967296 * (2 ^ (32 - s) * z)) := by
    rw [Nat.mul_add, ← Nat.mul_assoc 4294967296 4294967296 z, hd]
    rw [Nat.mul_assoc (2 ^ s), Nat.mul_assoc (2 ^ (32 - s)), Nat.mul_left_comm (2 ^ (32 - s)) 4294967296 z]
    omega
  rw [this, Nat.add_mul_div_left _ _ (Nat.two_pow_pos s), Nat.add_mul_mod_self_left]
/-- the numbers behind the first limbs -/
theorem div_pow_split {v m : Nat} : v / 2 ^ m = v / 4294967296 ^ (m / 32) / 2 ^ (m % 32) := by
  rw [Nat.div_div_eq_div_mul, pow32, ← Nat.pow_add, Nat.div_add_mod]
theorem down_end {pre l : List Nat} {n s : Nat} (hl : Ok l) (hn : l.length ≤ n) (h : val pre = val l / 2 ^ s % 4294967296 ^ n) : val pre = val l / 2 ^ s := by
  rw [h]
  apply Nat.mod_eq_of_lt
  have h1 := val_lt hl
  have h2 : 4294967296 ^ l.length ≤ 4294967296 ^ n := Nat.pow_le_pow_right (by decide) hn
  have := Nat.div_le_self (val l) (2 ^ s)
  omega
/-- one limb shifted up: what is written to two limbs -/
theorem up_bound {V P x s : Nat} (hV : V < P * 2 ^ s) (hx : x < 4294967296) : V + P * (x * 2 ^ s) < P * 4294967296 * 2 ^ s := by
  have h1 : x * 2 ^ s + 2 ^ s ≤ 4294967296 * 2 ^ s := by
    have := Nat.mul_le_mul_right (2 ^ s) (Nat.succ_le_of_lt hx)
    rwa [Nat.succ_mul] at this
  have h2 := Nat.mul_le_mul_left P h1
  rw [Nat.mul_add] at h2
  rw [Nat.mul_assoc]
  omega
/-- out's limb at the place i is all that lies from there on -/
theorem top_limb {out : List Nat} {i s : Nat} (ho : Ok out) (h : val out < 4294967296 ^ i * 2 ^ s) (hs : s ≤ 32) : out.getD i 0 = val out / 4294967296 ^ i ∧ out.getD i 0 < 2 ^ s ∧ (∀ j, i < j → out.getD j 0 = 0) := by
  have hq : val out / 4294967296 ^ i < 2 ^ s := Nat.div_lt_of_lt_mul h
  have lt : 2 ^ s ≤ 4294967296 := by
    have := Nat.pow_le_pow_right (n := 2) (by decide) hs
    simpa using this
  have e := getD_val out ho i
  rw [Nat.mod_eq_of_lt (by omega)] at e
  refine ⟨e, by omega, fun j hj => ?_⟩
  rw [getD_val out ho j, Nat.div_eq_of_lt, Nat.zero_mod]
  refine Nat.lt_of_lt_of_le h ?_
  have h1 : 4294967296 ^ (i + 1) ≤ 4294967296 ^ j := Nat.pow_le_pow_right (by decide) hj
  rw [Nat.pow_succ] at h1
  have h2 : 4294967296 ^ i * 2 ^ s ≤ 4294967296 ^ i * 4294967296 := Nat.mul_le_mul_left _ lt
  omega
theorem val_set' {out : List Nat} {i : Nat} (hi : i < out.length) (x : Nat) : val (out.set i x) + 4294967296 ^ i * out.getD i 0 = val out + 4294967296 ^ i * x := by
  induction out generalizing i with
  | nil => simp at hi
  | cons y l ih =>
    cases i with
    | zero => simp [val]; omega
    | succ i =>
      rw [List.set_cons_succ, val, val, List.getD_cons_succ]
      have := ih (i := i) (by simpa using hi)
      rw [Nat.pow_succ, Nat.mul_comm _ 4294967296, Nat.mul_assoc, Nat.mul_assoc]
      omega
theorem up_step {out : List Nat} {i s x : Nat} (ho : Ok out) (hs : s < 32) (hx : x < 4294967296) (hi : i + 1 < out.length) (hV : val out < 4294967296 ^ i * 2 ^ s) :
    out.getD i 0 + x * 2 ^ s % 4294967296 < 4294967296 ∧ x * 2 ^ s / 4294967296 < 4294967296 ∧
    val ((out.set i (out.getD i 0 + x * 2 ^ s % 4294967296)).set (i + 1) (x * 2 ^ s / 4294967296)) = val out + 4294967296 ^ i * (x * 2 ^ s) ∧
    val out + 4294967296 ^ i * (x * 2 ^ s) < 4294967296 ^ (i + 1) * 2 ^ s := by
  obtain ⟨h1, h2, h3⟩ := top_limb ho hV (by omega)
  have lt : 2 ^ s ≤ 2 ^ 31 := Nat.pow_le_pow_right (by decide) (by omega)
  have hxs : x * 2 ^ s < 4294967296 * 2 ^ 31 := Nat.lt_of_lt_of_le (Nat.mul_lt_mul_of_pos_right hx (Nat.two_pow_pos s)) (Nat.mul_le_mul_left _ lt)
  have hlow : x * 2 ^ s % 4294967296 + 2 ^ s ≤ 4294967296 := by
    have hd : (4294967296 : Nat) = 2 ^ s * 2 ^ (32 - s) := by rw [← Nat.pow_add, show s + (32 - s) = 32 by omega]
    have hm : x * 2 ^ s % 4294967296 = 2 ^ s * (x % 2 ^ (32 - s)) := by
      conv => lhs; rw [hd, Nat.mul_comm x]
      rw [Nat.mul_mod_mul_left]
    have hl := Nat.mod_lt x (Nat.two_pow_pos (32 - s))
    have := Nat.mul_le_mul_left (2 ^ s) (Nat.succ_le_of_lt hl)
    rw [Nat.mul_succ, ← hd] at this
    omega
  refine ⟨by omega, by omega, ?_, by rw [Nat.pow_succ]; exact up_bound hV hx⟩
  have s1 := val_set' (out := out.set i (out.getD i 0 + x * 2 ^ s % 4294967296)) (i := i + 1) (by simpa using hi) (x * 2 ^ s / 4294967296)
  have s2 := val_set' (out := out) (i := i) (by omega) (out.getD i 0 + x * 2 ^ s % 4294967296)
  rw [getD_set_ne (by omega), h3 (i + 1) (by omega), Nat.mul_zero, Nat.add_zero] at s1
  rw [Nat.mul_add] at s2
  have p := pow_split i (x * 2 ^ s)
  omega
/-- a limb of a quotient by a limb, from the highest on -/
theorem small_step {l : List Nat} {k d Q R : Nat} (hd : 0 < d) (hQ : Q = val (l.drop (k + 1)) / d) (hR : R = val (l.drop (k + 1)) % d) :
    (R * 4294967296 + l.getD k 0) / d + 4294967296 * Q = val (l.drop k) / d ∧ (R * 4294967296 + l.getD k 0) % d = val (l.drop k) % d := by
  rw [val_drop_getD l k]
  generalize val (l.drop (k + 1)) = V at *
  generalize l.getD k 0 = x
  have hV : V = Q * d + R := by rw [hQ, hR, Nat.mul_comm]; exact (Nat.div_add_mod V d).symm
  have e : x + 4294967296 * V = (R * 4294967296 + x) + d * (4294967296 * Q) := by
    rw [hV, Nat.mul_add, Nat.mul_comm Q d, ← Nat.mul_assoc 4294967296 d Q, Nat.mul_comm 4294967296 d, Nat.mul_assoc]
    omega
  rw [e, Nat.add_mul_div_left _ _ hd, Nat.add_mul_mod_self_left]
  exact ⟨rfl, rfl⟩
end Go.Proofs.Ytfifcpgjcgoinaa.NL
