/- Plain facts on limbs. No conditions. -/
import Derived.Test.YtfifcpgjcgoinaaNl
set_option linter.unusedVariables false
set_option linter.unusedSimpArgs false
namespace Go.Proofs.Ytfifcpgjcgoinaa.NL
open Go
theorem set_zeros (pre : List Nat) (n : Nat) (x : Nat) : (pre ++ List.replicate (n + 1) 0).set pre.length x = (pre ++ [x]) ++ List.replicate n 0 := by
  rw [List.replicate_succ, List.set_append_right _ _ (Nat.le_refl _), Nat.sub_self, List.set_cons_zero, List.append_assoc]; rfl
theorem set_zeros' {pre : List Nat} {k n : Nat} (hk : pre.length = k) (hn : k < n) (x : Nat) : (pre ++ List.replicate (n - k) 0).set k x = (pre ++ [x]) ++ List.replicate (n - (k + 1)) 0 := by
  subst hk
  rw [show n - pre.length = (n - (pre.length + 1)) + 1 by omega, set_zeros]
theorem pow_split (k s : Nat) : 4294967296 ^ k * (s % 4294967296) + 4294967296 ^ (k + 1) * (s / 4294967296) = 4294967296 ^ k * s := by
  have h := Nat.mod_add_div s 4294967296
  rw [Nat.pow_succ, Nat.mul_assoc, ← Nat.mul_add, h]
theorem add_step {pre l1 l2 : List Nat} {k c : Nat} (hk : pre.length = k) (h : val pre + 4294967296 ^ k * c = val (l1.take k) + val (l2.take k)) :
    val (pre ++ [(l1.getD k 0 + l2.getD k 0 + c) % 4294967296]) + 4294967296 ^ (k + 1) * ((l1.getD k 0 + l2.getD k 0 + c) / 4294967296) = val (l1.take (k + 1)) + val (l2.take (k + 1)) := by
  rw [val_snoc, hk, val_take_getD, val_take_getD]
  have := pow_split k (l1.getD k 0 + l2.getD k 0 + c)
  rw [Nat.mul_add _ (l1.getD k 0 + l2.getD k 0), Nat.mul_add] at this
  generalize 4294967296 ^ (k + 1) * ((l1.getD k 0 + l2.getD k 0 + c) / 4294967296) = a at *
  generalize 4294967296 ^ k * ((l1.getD k 0 + l2.getD k 0 + c) % 4294967296) = b at *
  generalize 4294967296 ^ k * c = d at *
  generalize 4294967296 ^ k * l1.getD k 0 = e at *
  generalize 4294967296 ^ k * l2.getD k 0 = f at *
  omega
theorem add_end' {p a b P Q c q1 q2 : Nat} (h : p + Q * c = a + b) (b1 : a < q1) (b2 : b < q2) (p1 : q1 ≤ P) (p2 : q2 ≤ P) (hQ : P + P ≤ Q) : p = a + b ∧ c = 0 := by
  have hc : c = 0 := by
    rcases Nat.eq_zero_or_pos c with hc | hc
    · exact hc
    · have := Nat.le_mul_of_pos_right Q hc
      omega
  subst hc
  exact ⟨by omega, rfl⟩
/-- the sum is whole when all limbs are done -/
theorem add_end {pre l1 l2 : List Nat} {n c : Nat} (o1 : Ok l1) (o2 : Ok l2) (h1 : l1.length < n) (h2 : l2.length < n) (h : val pre + 4294967296 ^ n * c = val (l1.take n) + val (l2.take n)) : val pre = val l1 + val l2 ∧ c = 0 := by
  rw [val_take_all (Nat.le_of_lt h1), val_take_all (Nat.le_of_lt h2)] at h
  have b1 := val_lt o1
  have b2 := val_lt o2
  obtain ⟨m, rfl⟩ : ∃ m, n = m + 1 := ⟨n - 1, by omega⟩
  have p1 : 4294967296 ^ l1.length ≤ 4294967296 ^ m := Nat.pow_le_pow_right (by decide) (by omega)
  have p2 : 4294967296 ^ l2.length ≤ 4294967296 ^ m := Nat.pow_le_pow_right (by decide) (by omega)
  have hQ : 4294967296 ^ m + 4294967296 ^ m ≤ 4294967296 ^ (m + 1) := by
    rw [Nat.pow_succ]
    generalize 4294967296 ^ m = P
    omega
  exact add_end' h b1 b2 p1 p2 hQ
/-- what is borrowed -/
def brw (x y c : Nat) : Nat := if x < y + c then 1 else 0
theorem brw_le (x y c : Nat) : brw x y c ≤ 1 := by unfold brw; split <;> omega
theorem brw_eq (x y c : Nat) (hx : x < 4294967296) (hy : y < 4294967296) (hc : c ≤ 1) : (x + 4294967296 - y - c) % 4294967296 + y + c = x + 4294967296 * brw x y c := by unfold brw; split <;> omega
theorem sub_step {pre l1 l2 : List Nat} {k c : Nat} (o1 : Ok l1) (o2 : Ok l2) (hc : c ≤ 1) (hk : pre.length = k) (h : val pre + val (l2.take k) = val (l1.take k) + 4294967296 ^ k * c) :
    val (pre ++ [(l1.getD k 0 + 4294967296 - l2.getD k 0 - c) % 4294967296]) + val (l2.take (k + 1)) = val (l1.take (k + 1)) + 4294967296 ^ (k + 1) * brw (l1.getD k 0) (l2.getD k 0) c := by
  rw [val_snoc, hk, val_take_getD, val_take_getD]
  have e := brw_eq (l1.getD k 0) (l2.getD k 0) c (o1.getD k) (o2.getD k) hc
  have := congrArg (4294967296 ^ k * ·) e
  simp only [Nat.mul_add, ← Nat.mul_assoc] at this
  rw [Nat.pow_succ]
  omega
theorem sub_end {pre l1 l2 : List Nat} {n c : Nat} (ok : Ok pre) (hp : pre.length = n) (h1 : l1.length ≤ n) (h2 : l2.length ≤ n) (hle : val l2 ≤ val l1) (h : val pre + val (l2.take n) = val (l1.take n) + 4294967296 ^ n * c) : val pre = val l1 - val l2 ∧ c = 0 := by
  rw [val_take_all h1, val_take_all h2] at h
  have b := val_lt ok
  rw [hp] at b
  have hc : c = 0 := by
    rcases Nat.eq_zero_or_pos c with hc | hc
    · exact hc
    · have := Nat.mul_le_mul_left (4294967296 ^ n) hc
      omega
  subst hc
  exact ⟨by omega, rfl⟩
theorem val_set {l : List Nat} {k : Nat} (hk : k < l.length) (x : Nat) : val (l.set k x) + 4294967296 ^ k * l.getD k 0 = val l + 4294967296 ^ k * x := by
  induction l generalizing k with
  | nil => simp at hk
  | cons y l ih =>
    cases k with
    | zero => simp [val]; omega
    | succ k =>
      have := ih (k := k) (by simpa using hk)
      simp only [List.set_cons_succ, val, List.getD_cons_succ]
      have h2 := congrArg (4294967296 * ·) this
      simp only [Nat.mul_add, ← Nat.mul_assoc] at h2
      rw [Nat.pow_succ, Nat.mul_comm (4294967296 ^ k) 4294967296]
      omega
end Go.Proofs.Ytfifcpgjcgoinaa.NL
namespace Go.Proofs.Ytfifcpgjcgoinaa.NL
open Go
theorem limbs_prefix {l : List Nat} (h : Ok l) : l.take (limbs (val l)).length = limbs (val l) := by
  induction l with
  | nil => simp [val, limbs_zero]
  | cons x l ih =>
    by_cases h0 : val (x :: l) = 0
    · rw [h0, limbs_zero]; rfl
    · have hx := h.head
      rw [limbs_pos h0, val, show (x + 4294967296 * val l) % 4294967296 = x by omega, show (x + 4294967296 * val l) / 4294967296 = val l by omega, List.length_cons, List.take_succ_cons, ih h.tail]
end Go.Proofs.Ytfifcpgjcgoinaa.NL
namespace Go.Proofs.Ytfifcpgjcgoinaa.NL
open Go
theorem mul_carry {x y z c : Nat} (hx : x < 4294967296) (hy : y < 4294967296) (hz : z < 4294967296) (hc : c < 4294967296) : (x * y + z + c) / 4294967296 < 4294967296 := by
  have : x * y ≤ 4294967295 * 4294967295 := Nat.mul_le_mul (by omega) (by omega)
  omega
theorem mul_step {out l2 : List Nat} {k j c x V : Nat} (hj : k + j < out.length) (h : val out + 4294967296 ^ (k + j) * c = V + 4294967296 ^ k * (x * val (l2.take j))) :
    val (out.set (k + j) ((x * l2.getD j 0 + out.getD (k + j) 0 + c) % 4294967296)) + 4294967296 ^ (k + (j + 1)) * ((x * l2.getD j 0 + out.getD (k + j) 0 + c) / 4294967296) = V + 4294967296 ^ k * (x * val (l2.take (j + 1))) := by
  have s := val_set hj ((x * l2.getD j 0 + out.getD (k + j) 0 + c) % 4294967296)
  have p := pow_split (k + j) (x * l2.getD j 0 + out.getD (k + j) 0 + c)
  rw [Nat.mul_add _ (x * l2.getD j 0 + out.getD (k + j) 0), Nat.mul_add] at p
  rw [val_take_getD, Nat.mul_add x, Nat.mul_add (4294967296 ^ k), ← Nat.add_assoc k j 1]
  have e : 4294967296 ^ k * (x * (4294967296 ^ j * l2.getD j 0)) = 4294967296 ^ (k + j) * (x * l2.getD j 0) := by
    rw [Nat.pow_add]
    ac_rfl
  rw [e]
  generalize 4294967296 ^ (k + j + 1) * ((x * l2.getD j 0 + out.getD (k + j) 0 + c) / 4294967296) = a1 at *
  generalize val (out.set (k + j) ((x * l2.getD j 0 + out.getD (k + j) 0 + c) % 4294967296)) = a2 at *
  generalize 4294967296 ^ (k + j) * ((x * l2.getD j 0 + out.getD (k + j) 0 + c) % 4294967296) = a3 at *
  generalize 4294967296 ^ (k + j) * (x * l2.getD j 0) = a4 at *
  generalize 4294967296 ^ (k + j) * out.getD (k + j) 0 = a5 at *
  generalize 4294967296 ^ (k + j) * c = a6 at *
  generalize 4294967296 ^ k * (x * val (l2.take j)) = a7 at *
  omega
theorem mul_round {out l1 l2 : List Nat} {k c : Nat} (hk : k + l2.length < out.length) (hz : out.getD (k + l2.length) 0 = 0) (h : val out + 4294967296 ^ (k + l2.length) * c = val (l1.take k) * val l2 + 4294967296 ^ k * (l1.getD k 0 * val (l2.take l2.length))) :
    val (out.set (k + l2.length) c) = val (l1.take (k + 1)) * val l2 := by
  have s := val_set hk c
  rw [hz, Nat.mul_zero, Nat.add_zero] at s
  rw [s, h, val_take_getD, List.take_length, Nat.add_mul, Nat.mul_assoc]
theorem getD_set_ne {l : List Nat} {i j x : Nat} (h : i ≠ j) : (l.set i x).getD j 0 = l.getD j 0 := by
  rw [List.getD_eq_getElem?_getD, List.getD_eq_getElem?_getD, List.getElem?_set_ne h]
end Go.Proofs.Ytfifcpgjcgoinaa.NL
