/- Plain facts on limbs. No conditions. -/
import Derived.Test.YtfifcpgjcgoinaaNp1
set_option linter.unusedVariables false
set_option linter.unusedSimpArgs false
namespace Go.Proofs.Ytfifcpgjcgoinaa.NL
open Go
/-- the quotient's limb is not more than what the highest limbs tell -/
theorem guess_ge {R d top head P q : Nat} (htop : 0 < top) (h1 : P * top ≤ d) (h2 : R < P * (head + 1)) (hq : q * d ≤ R) : q ≤ head / top := by
  rw [Nat.le_div_iff_mul_le htop]
  have h3 : P * (q * top) ≤ q * d := by rw [Nat.mul_left_comm]; exact Nat.mul_le_mul_left q h1
  have h4 : P * (q * top) < P * (head + 1) := by omega
  have := Nat.lt_of_mul_lt_mul_left h4
  omega
theorem quot_lt {R d : Nat} (h : R < 4294967296 * d) : R / d < 4294967296 := Nat.div_lt_of_lt_mul (by rwa [Nat.mul_comm] at h)
/-- Newton's step from above -/
theorem newton_ge (v x : Nat) (hx : 0 < x) : v < ((x + v / x) / 2 + 1) * ((x + v / x) / 2 + 1) := by
  have h1 : v < x * (v / x + 1) := by
    have := Nat.lt_mul_div_succ v hx
    exact this
  generalize v / x = q at *
  obtain ⟨m, hm⟩ : ∃ m, (x + q) / 2 = m := ⟨_, rfl⟩
  rw [hm]
  have h2 : x + (q + 1) ≤ 2 * (m + 1) := by omega
  generalize q + 1 = y at *
  generalize m + 1 = z at *
  -- 4xy ≤ (x+y)^2 ≤ 4 z^2
  have h3 : x * y ≤ z * z := by
    rcases Nat.le_total x z with hh | hh
    · obtain ⟨t, rfl⟩ : ∃ t, z = x + t := ⟨z - x, by omega⟩
      have : y ≤ x + 2 * t := by omega
      have h4 := Nat.mul_le_mul_left x this
      rw [Nat.mul_add] at h4
      rw [Nat.add_mul, Nat.mul_add, Nat.mul_add, Nat.mul_comm t x]
      have e5 : x * (2 * t) = x * t + x * t := by rw [Nat.mul_left_comm]; omega
      have : 0 ≤ t * t := Nat.zero_le _
      omega
    · obtain ⟨t, rfl⟩ : ∃ t, x = z + t := ⟨x - z, by omega⟩
      have : y + t ≤ z := by omega
      obtain ⟨u, rfl⟩ : ∃ u, z = y + t + u := ⟨z - y - t, by omega⟩
      have h4 : (y + t + u + t) * y ≤ (y + t + u) * (y + t + u) := by
        have e1 : (y + t + u + t) * y = y * y + t * y + u * y + t * y := by simp [Nat.add_mul]
        have e2 : (y + t + u) * (y + t + u) = y * y + t * y + u * y + (y * t + t * t + u * t) + (y * u + t * u + u * u) := by simp [Nat.add_mul, Nat.mul_add]
        rw [e1, e2, Nat.mul_comm y t]
        have := Nat.zero_le (t * t)
        omega
      exact h4
  omega
/-- r is the integer square root -/
def IsRt (v r : Nat) : Prop := r * r ≤ v ∧ v < (r + 1) * (r + 1)
theorem rt_uniq {v r s : Nat} (h : IsRt v r) (k : IsRt v s) : r = s := by
  rcases Nat.lt_trichotomy r s with h1 | h1 | h1
  · exfalso
    have := Nat.mul_le_mul (show r + 1 ≤ s by omega) (show r + 1 ≤ s by omega)
    have := h.2; have := k.1; omega
  · exact h1
  · exfalso
    have := Nat.mul_le_mul (show s + 1 ≤ r by omega) (show s + 1 ≤ r by omega)
    have := k.2; have := h.1; omega
theorem newton_end {v x : Nat} (hx : 0 < x) (hv : v < (x + 1) * (x + 1)) (h : x ≤ (x + v / x) / 2) : IsRt v x := by
  refine ⟨?_, hv⟩
  have h1 : x ≤ v / x := by omega
  exact (Nat.le_div_iff_mul_le hx).1 h1
theorem newton_pos {v x : Nat} (hx : 0 < x) (h0 : 0 < v) : 0 < (x + v / x) / 2 := by
  rcases Nat.lt_or_ge v x with h | h
  · generalize v / x = q
    omega
  · have : 0 < v / x := Nat.div_pos h hx
    generalize v / x = q at *
    omega
theorem root_start (v : Nat) : v < (2 ^ ((nb v + 1) / 2) + 1) * (2 ^ ((nb v + 1) / 2) + 1) := by
  have h1 := nb_lt v
  have h2 : 2 ^ nb v ≤ 2 ^ ((nb v + 1) / 2) * 2 ^ ((nb v + 1) / 2) := by rw [← Nat.pow_add]; exact Nat.pow_le_pow_right (by decide) (by omega)
  have h3 := Nat.mul_le_mul (Nat.le_succ (2 ^ ((nb v + 1) / 2))) (Nat.le_succ (2 ^ ((nb v + 1) / 2)))
  simp only [Nat.succ_eq_add_one] at h3
  omega
theorem rt_ex (v : Nat) : ∃ r, IsRt v r := by
  induction v with
  | zero => exact ⟨0, by decide, by decide⟩
  | succ v ih =>
    obtain ⟨r, h1, h2⟩ := ih
    rcases Nat.lt_or_ge (v + 1) ((r + 1) * (r + 1)) with h | h
    · exact ⟨r, by omega, h⟩
    · refine ⟨r + 1, h, ?_⟩
      have : (r + 1 + 1) * (r + 1 + 1) = (r + 1) * (r + 1) + 2 * r + 3 := by simp [Nat.add_mul, Nat.mul_add]; omega
      omega
/-- the root -/
noncomputable def rt (v : Nat) : Nat := Classical.choose (rt_ex v)
theorem rt_is (v : Nat) : IsRt v (rt v) := Classical.choose_spec (rt_ex v)
theorem rt_eq {v r : Nat} (h : IsRt v r) : rt v = r := rt_uniq (rt_is v) h
/-- the decimal digits, the lowest first -/
def digs (n : Nat) : List Nat := if h : n = 0 then [] else n % 10 :: digs (n / 10)
termination_by n
decreasing_by exact Nat.div_lt_self (Nat.pos_of_ne_zero h) (by decide)
theorem digs_zero : digs 0 = [] := by rw [digs]; rfl
theorem digs_pos {n : Nat} (h : n ≠ 0) : digs n = n % 10 :: digs (n / 10) := by rw [digs, dif_neg h]
theorem digs_lt (n : Nat) : ∀ x ∈ digs n, x < 10 := by
  induction n using Nat.strongRecOn with
  | ind n ih =>
    by_cases h : n = 0
    · subst h; rw [digs_zero]; simp
    · rw [digs_pos h]
      intro x hx
      rcases List.mem_cons.1 hx with rfl | hx
      · exact Nat.mod_lt _ (by decide)
      · exact ih _ (Nat.div_lt_self (Nat.pos_of_ne_zero h) (by decide)) x hx
/-- the number that digits stand for, the highest first -/
def dval (l : List Nat) : Nat := l.foldl (fun n d => 10 * n + d) 0
theorem dval_snoc (l : List Nat) (d : Nat) : dval (l ++ [d]) = 10 * dval l + d := by simp [dval]
theorem dval_digs (n : Nat) : dval (digs n).reverse = n := by
  induction n using Nat.strongRecOn with
  | ind n ih =>
    by_cases h : n = 0
    · subst h; rw [digs_zero]; rfl
    · rw [digs_pos h, List.reverse_cons, dval_snoc, ih _ (Nat.div_lt_self (Nat.pos_of_ne_zero h) (by decide))]
      omega
theorem digs_len (n k : Nat) (h : n < 10 ^ k) : (digs n).length ≤ k := by
  induction k generalizing n with
  | zero => have : n = 0 := by simp at h; exact h
            subst this; rw [digs_zero]; exact Nat.le_refl _
  | succ k ih =>
    by_cases h0 : n = 0
    · subst h0; rw [digs_zero]; exact Nat.zero_le _
    · rw [digs_pos h0, List.length_cons]
      have := ih (n / 10) (by rw [Nat.pow_succ] at h; omega)
      omega
/-- the highest digit is not 0 -/
theorem digs_last (n : Nat) (k : Nat) (h : (digs n).length = k + 1) : (digs n).getD k 0 ≠ 0 := by
  induction n using Nat.strongRecOn generalizing k with
  | ind n ih =>
    by_cases h0 : n = 0
    · subst h0; rw [digs_zero] at h; cases h
    · rw [digs_pos h0] at h ⊢
      cases k with
      | zero =>
        rw [List.length_cons] at h
        have h2 : digs (n / 10) = [] := List.eq_nil_of_length_eq_zero (by omega)
        by_cases h3 : n / 10 = 0
        · simp; omega
        · rw [digs_pos h3] at h2; cases h2
      | succ k =>
        rw [List.length_cons] at h
        have := ih (n / 10) (Nat.div_lt_self (Nat.pos_of_ne_zero h0) (by decide)) k (by omega)
        simpa using this
end Go.Proofs.Ytfifcpgjcgoinaa.NL
