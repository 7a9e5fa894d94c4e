/- Plain facts and contracts of functions of the program, out of walks. Their conditions stand ahead of each. -/
import Derived.Test.YtcaaecmbbbdopaaDs1
import Derived.Lib.BitFns
import Derived.Lib.ItoaNum
set_option linter.unusedVariables false
set_option linter.unusedSimpArgs false
namespace Go.Proofs.Ytcaaecmbbbdopaa.NL
open Go
/-- the number of bits -/
def nb (v : Nat) : Nat := if v = 0 then 0 else Nat.log2 v + 1
theorem nb_le (v k : Nat) : nb v ≤ k ↔ v < 2 ^ k := by
  unfold nb
  by_cases h : v = 0
  · rw [if_pos h, h]; exact ⟨fun _ => Nat.two_pow_pos k, fun _ => Nat.zero_le _⟩
  · rw [if_neg h]
    exact (Nat.log2_lt h)
theorem nb_zero : nb 0 = 0 := rfl
theorem nb_pos {v : Nat} (h : v ≠ 0) : 0 < nb v := by unfold nb; rw [if_neg h]; omega
theorem nb_ge {v : Nat} (h : v ≠ 0) : 2 ^ (nb v - 1) ≤ v := by
  rcases Nat.lt_or_ge v (2 ^ (nb v - 1)) with h1 | h1
  · have := (nb_le v _).2 h1
    have := nb_pos h
    omega
  · exact h1
theorem nb_lt (v : Nat) : v < 2 ^ nb v := (nb_le v _).1 (Nat.le_refl _)
theorem nb_uniq {v k : Nat} (h : v < 2 ^ k) (h2 : k = 0 ∨ 2 ^ (k - 1) ≤ v) : nb v = k := by
  have h1 := (nb_le v k).2 h
  rcases h2 with h2 | h2
  · omega
  · rcases Nat.lt_or_ge (nb v) k with h3 | h3
    · have := (nb_le v (k - 1)).1 (by omega); omega
    · omega
theorem nb_bitLen (x : Nat) (h : x < 4294967296) : Lib.bitLen x = nb x := by
  by_cases h0 : x = 0
  · subst h0; rfl
  · obtain ⟨h1, h2, h3⟩ := Lib.bitLenAux_bounds 64 x (by omega) h0
    exact (nb_uniq h3 (.inr h2)).symm
theorem pow32 (k : Nat) : 4294967296 ^ k = 2 ^ (32 * k) := by rw [Nat.pow_mul]
theorem nb_top {v m : Nat} (h : (limbs v).length = m + 1) : nb v = 32 * m + nb ((limbs v).getD m 0) := by
  have s := val_split (limbs v) m (by omega)
  rw [val_limbs, val_drop_getD, List.drop_of_length_le (by omega), show val [] = 0 from rfl, Nat.mul_zero, Nat.add_zero] at s
  have b := val_lt ((ok_limbs v).take m)
  rw [List.length_take, Nat.min_eq_left (by omega)] at b
  have t0 := trim_limbs v m h
  generalize (limbs v).getD m 0 = t at *
  generalize val ((limbs v).take m) = r at *
  have h1 := nb_lt t
  have h2 := nb_ge t0
  have h3 := nb_pos t0
  rw [pow32] at s b
  apply nb_uniq
  · rw [Nat.pow_add]
    have := Nat.mul_le_mul_left (2 ^ (32 * m)) (Nat.succ_le_of_lt h1)
    rw [Nat.mul_succ] at this
    omega
  · right
    rw [show 32 * m + nb t - 1 = 32 * m + (nb t - 1) by omega, Nat.pow_add]
    have := Nat.mul_le_mul_left (2 ^ (32 * m)) h2
    omega
theorem val_div (l : List Nat) (h : Ok l) (k : Nat) : val l / 4294967296 ^ k = val (l.drop k) := by
  induction k generalizing l with
  | zero => simp
  | succ k ih =>
    cases l with
    | nil => simp [val]
    | cons x l =>
      have hx := h.head
      rw [Nat.pow_succ, Nat.mul_comm, ← Nat.div_div_eq_div_mul, val, show (x + 4294967296 * val l) / 4294967296 = val l by omega, ih l h.tail, List.drop_succ_cons]
theorem getD_val (l : List Nat) (h : Ok l) (k : Nat) : l.getD k 0 = val l / 4294967296 ^ k % 4294967296 := by
  rw [val_div l h k, val_drop_getD]
  have := h.getD k
  omega
theorem val_mod (l : List Nat) (h : Ok l) (k : Nat) : val l % 4294967296 ^ k = val (l.take k) := by
  rcases Nat.lt_or_ge l.length k with hk | hk
  · rw [val_take_all (by omega)]
    exact Nat.mod_eq_of_lt (Nat.lt_of_lt_of_le (val_lt h) (Nat.pow_le_pow_right (by decide) (by omega)))
  · have s := val_split l k hk
    have b := val_lt (h.take k)
    rw [List.length_take, Nat.min_eq_left hk] at b
    rw [s, Nat.add_mul_mod_self_left, Nat.mod_eq_of_lt b]
end Go.Proofs.Ytcaaecmbbbdopaa.NL
namespace Go.Proofs.Ytcaaecmbbbdopaa.NL
open Go
/-- digits from the lowest: the number T's lowest k limbs -/
theorem mod_step {T k p x : Nat} (h : p = T % 4294967296 ^ k) (hx : x = T / 4294967296 ^ k % 4294967296) : p + 4294967296 ^ k * x = T % 4294967296 ^ (k + 1) := by
  rw [Nat.pow_succ, Nat.mod_mul, h, hx]
theorem low_step {pre : List Nat} {T k x : Nat} (hp : pre.length = k) (h : val pre = T % 4294967296 ^ k) (hx : x = T / 4294967296 ^ k % 4294967296) : val (pre ++ [x]) = T % 4294967296 ^ (k + 1) := by
  rw [val_snoc, hp]; exact mod_step h hx
/-- a limb of a number shifted down by less than a limb -/
theorem down_limb {l : List Nat} (h : Ok l) (k s : Nat) (hs : s < 32) : (l.getD k 0 + 4294967296 * l.getD (k + 1) 0) / 2 ^ s % 4294967296 = val l / 2 ^ s / 4294967296 ^ k % 4294967296 := by
  rw [Nat.div_div_eq_div_mul, Nat.mul_comm (2 ^ s), ← Nat.div_div_eq_div_mul, val_div l h k]
  have e := val_drop_getD l k
  have e2 := val_drop_getD l (k + 1)
  rw [e2] at e
  rw [e]
  generalize val (l.drop (k + 1 + 1)) = z
  generalize l.getD k 0 = x
  generalize l.getD (k + 1) 0 = y
  have hd : (4294967296 : Nat) * 4294967296 = 2 ^ s * (2 ^ (32 - s) * 4294967296) := by
    rw [← Nat.mul_assoc, ← Nat.pow_add, show s + (32 - s) = 32 by omega]
  have : x + 4294967296 * (y + 4294967296 * z) = (x + 4294967296 * y) + 2 ^ s * (4294967296 * (2 ^ (32 - s) * z)) := by
    rw [Nat.mul_add, ← Nat.mul_assoc 4294967296 4294967296 z, hd]
    rw [Nat.mul_assoc (2 ^ s), Nat.mul_assoc (2 ^ (32 - s)), Nat.mul_left_comm (2 ^ (32 - s)) 4294967296 z]
    omega
  rw [this, Nat.add_mul_div_left _ _ (Nat.two_pow_pos s), Nat.add_mul_mod_self_left]
/-- the numbers behind the first limbs -/
theorem div_pow_split {v m : Nat} : v / 2 ^ m = v / 4294967296 ^ (m / 32) / 2 ^ (m % 32) := by
  rw [Nat.div_div_eq_div_mul, pow32, ← Nat.pow_add, Nat.div_add_mod]
theorem down_end {pre l : List Nat} {n s : Nat} (hl : Ok l) (hn : l.length ≤ n) (h : val pre = val l / 2 ^ s % 4294967296 ^ n) : val pre = val l / 2 ^ s := by
  rw [h]
  apply Nat.mod_eq_of_lt
  have h1 := val_lt hl
  have h2 : 4294967296 ^ l.length ≤ 4294967296 ^ n := Nat.pow_le_pow_right (by decide) hn
  have := Nat.div_le_self (val l) (2 ^ s)
  omega
/-- one limb shifted up: what is written to two limbs -/
theorem up_bound {V P x s : Nat} (hV : V < P * 2 ^ s) (hx : x < 4294967296) : V + P * (x * 2 ^ s) < P * 4294967296 * 2 ^ s := by
  have h1 : x * 2 ^ s + 2 ^ s ≤ 4294967296 * 2 ^ s := by
    have := Nat.mul_le_mul_right (2 ^ s) (Nat.succ_le_of_lt hx)
    rwa [Nat.succ_mul] at this
  have h2 := Nat.mul_le_mul_left P h1
  rw [Nat.mul_add] at h2
  rw [Nat.mul_assoc]
  omega
/-- out's limb at the place i is all that lies from there on -/
theorem top_limb {out : List Nat} {i s : Nat} (ho : Ok out) (h : val out < 4294967296 ^ i * 2 ^ s) (hs : s ≤ 32) : out.getD i 0 = val out / 4294967296 ^ i ∧ out.getD i 0 < 2 ^ s ∧ (∀ j, i < j → out.getD j 0 = 0) := by
  have hq : val out / 4294967296 ^ i < 2 ^ s := Nat.div_lt_of_lt_mul h
  have lt : 2 ^ s ≤ 4294967296 := by
    have := Nat.pow_le_pow_right (n := 2) (by decide) hs
    simpa using this
  have e := getD_val out ho i
  rw [Nat.mod_eq_of_lt (by omega)] at e
  refine ⟨e, by omega, fun j hj => ?_⟩
  rw [getD_val out ho j, Nat.div_eq_of_lt, Nat.zero_mod]
  refine Nat.lt_of_lt_of_le h ?_
  have h1 : 4294967296 ^ (i + 1) ≤ 4294967296 ^ j := Nat.pow_le_pow_right (by decide) hj
  rw [Nat.pow_succ] at h1
  have h2 : 4294967296 ^ i * 2 ^ s ≤ 4294967296 ^ i * 4294967296 := Nat.mul_le_mul_left _ lt
  omega
theorem val_set' {out : List Nat} {i : Nat} (hi : i < out.length) (x : Nat) : val (out.set i x) + 4294967296 ^ i * out.getD i 0 = val out + 4294967296 ^ i * x := by
  induction out generalizing i with
  | nil => simp at hi
  | cons y l ih =>
    cases i with
    | zero => simp [val]; omega
    | succ i =>
      rw [List.set_cons_succ, val, val, List.getD_cons_succ]
      have := ih (i := i) (by simpa using hi)
      rw [Nat.pow_succ, Nat.mul_comm _ 4294967296, Nat.mul_assoc, Nat.mul_assoc]
      omega
theorem up_step {out : List Nat} {i s x : Nat} (ho : Ok out) (hs : s < 32) (hx : x < 4294967296) (hi : i + 1 < out.length) (hV : val out < 4294967296 ^ i * 2 ^ s) :
    out.getD i 0 + x * 2 ^ s % 4294967296 < 4294967296 ∧ x * 2 ^ s / 4294967296 < 4294967296 ∧
    val ((out.set i (out.getD i 0 + x * 2 ^ s % 4294967296)).set (i + 1) (x * 2 ^ s / 4294967296)) = val out + 4294967296 ^ i * (x * 2 ^ s) ∧
    val out + 4294967296 ^ i * (x * 2 ^ s) < 4294967296 ^ (i + 1) * 2 ^ s := by
  obtain ⟨h1, h2, h3⟩ := top_limb ho hV (by omega)
  have lt : 2 ^ s ≤ 2 ^ 31 := Nat.pow_le_pow_right (by decide) (by omega)
  have hxs : x * 2 ^ s < 4294967296 * 2 ^ 31 := Nat.lt_of_lt_of_le (Nat.mul_lt_mul_of_pos_right hx (Nat.two_pow_pos s)) (Nat.mul_le_mul_left _ lt)
  have hlow : x * 2 ^ s % 4294967296 + 2 ^ s ≤ 4294967296 := by
    have hd : (4294967296 : Nat) = 2 ^ s * 2 ^ (32 - s) := by rw [← Nat.pow_add, show s + (32 - s) = 32 by omega]
    have hm : x * 2 ^ s % 4294967296 = 2 ^ s * (x % 2 ^ (32 - s)) := by
      conv => lhs; rw [hd, Nat.mul_comm x]
      rw [Nat.mul_mod_mul_left]
    have hl := Nat.mod_lt x (Nat.two_pow_pos (32 - s))
    have := Nat.mul_le_mul_left (2 ^ s) (Nat.succ_le_of_lt hl)
    rw [Nat.mul_succ, ← hd] at this
    omega
  refine ⟨by omega, by omega, ?_, by rw [Nat.pow_succ]; exact up_bound hV hx⟩
  have s1 := val_set' (out := out.set i (out.getD i 0 + x * 2 ^ s % 4294967296)) (i := i + 1) (by simpa using hi) (x * 2 ^ s / 4294967296)
  have s2 := val_set' (out := out) (i := i) (by omega) (out.getD i 0 + x * 2 ^ s % 4294967296)
  rw [getD_set_ne (by omega), h3 (i + 1) (by omega), Nat.mul_zero, Nat.add_zero] at s1
  rw [Nat.mul_add] at s2
  have p := pow_split i (x * 2 ^ s)
  omega
/-- a limb of a quotient by a limb, from the highest on -/
theorem small_step {l : List Nat} {k d Q R : Nat} (hd : 0 < d) (hQ : Q = val (l.drop (k + 1)) / d) (hR : R = val (l.drop (k + 1)) % d) :
    (R * 4294967296 + l.getD k 0) / d + 4294967296 * Q = val (l.drop k) / d ∧ (R * 4294967296 + l.getD k 0) % d = val (l.drop k) % d := by
  rw [val_drop_getD l k]
  generalize val (l.drop (k + 1)) = V at *
  generalize l.getD k 0 = x
  have hV : V = Q * d + R := by rw [hQ, hR, Nat.mul_comm]; exact (Nat.div_add_mod V d).symm
  have e : x + 4294967296 * V = (R * 4294967296 + x) + d * (4294967296 * Q) := by
    rw [hV, Nat.mul_add, Nat.mul_comm Q d, ← Nat.mul_assoc 4294967296 d Q, Nat.mul_comm 4294967296 d, Nat.mul_assoc]
    omega
  rw [e, Nat.add_mul_div_left _ _ hd, Nat.add_mul_mod_self_left]
  exact ⟨rfl, rfl⟩
end Go.Proofs.Ytcaaecmbbbdopaa.NL
namespace Go.Proofs.Ytcaaecmbbbdopaa.NL
open Go
/-- the quotient's limb is not more than what the highest limbs tell -/
theorem guess_ge {R d top head P q : Nat} (htop : 0 < top) (h1 : P * top ≤ d) (h2 : R < P * (head + 1)) (hq : q * d ≤ R) : q ≤ head / top := by
  rw [Nat.le_div_iff_mul_le htop]
  have h3 : P * (q * top) ≤ q * d := by rw [Nat.mul_left_comm]; exact Nat.mul_le_mul_left q h1
  have h4 : P * (q * top) < P * (head + 1) := by omega
  have := Nat.lt_of_mul_lt_mul_left h4
  omega
theorem quot_lt {R d : Nat} (h : R < 4294967296 * d) : R / d < 4294967296 := Nat.div_lt_of_lt_mul (by rwa [Nat.mul_comm] at h)
/-- Newton's step from above -/
theorem newton_ge (v x : Nat) (hx : 0 < x) : v < ((x + v / x) / 2 + 1) * ((x + v / x) / 2 + 1) := by
  have h1 : v < x * (v / x + 1) := by
    have := Nat.lt_mul_div_succ v hx
    exact this
  generalize v / x = q at *
  obtain ⟨m, hm⟩ : ∃ m, (x + q) / 2 = m := ⟨_, rfl⟩
  rw [hm]
  have h2 : x + (q + 1) ≤ 2 * (m + 1) := by omega
  generalize q + 1 = y at *
  generalize m + 1 = z at *
  -- 4xy ≤ (x+y)^2 ≤ 4 z^2
  have h3 : x * y ≤ z * z := by
    rcases Nat.le_total x z with hh | hh
    · obtain ⟨t, rfl⟩ : ∃ t, z = x + t := ⟨z - x, by omega⟩
      have : y ≤ x + 2 * t := by omega
      have h4 := Nat.mul_le_mul_left x this
      rw [Nat.mul_add] at h4
      rw [Nat.add_mul, Nat.mul_add, Nat.mul_add, Nat.mul_comm t x]
      have e5 : x * (2 * t) = x * t + x * t := by rw [Nat.mul_left_comm]; omega
      have : 0 ≤ t * t := Nat.zero_le _
      omega
    · obtain ⟨t, rfl⟩ : ∃ t, x = z + t := ⟨x - z, by omega⟩
      have : y + t ≤ z := by omega
      obtain ⟨u, rfl⟩ : ∃ u, z = y + t + u := ⟨z - y - t, by omega⟩
      have h4 : (y + t + u + t) * y ≤ (y + t + u) * (y + t + u) := by
        have e1 : (y + t + u + t) * y = y * y + t * y + u * y + t * y := by simp [Nat.add_mul]
        have e2 : (y + t + u) * (y + t + u) = y * y + t * y + u * y + (y * t + t * t + u * t) + (y * u + t * u + u * u) := by simp [Nat.add_mul, Nat.mul_add]
        rw [e1, e2, Nat.mul_comm y t]
        have := Nat.zero_le (t * t)
        omega
      exact h4
  omega
/-- r is the integer square root -/
def IsRt (v r : Nat) : Prop := r * r ≤ v ∧ v < (r + 1) * (r + 1)
theorem rt_uniq {v r s : Nat} (h : IsRt v r) (k : IsRt v s) : r = s := by
  rcases Nat.lt_trichotomy r s with h1 | h1 | h1
  · exfalso
    have := Nat.mul_le_mul (show r + 1 ≤ s by omega) (show r + 1 ≤ s by omega)
    have := h.2; have := k.1; omega
  · exact h1
  · exfalso
    have := Nat.mul_le_mul (show s + 1 ≤ r by omega) (show s + 1 ≤ r by omega)
    have := k.2; have := h.1; omega
theorem newton_end {v x : Nat} (hx : 0 < x) (hv : v < (x + 1) * (x + 1)) (h : x ≤ (x + v / x) / 2) : IsRt v x := by
  refine ⟨?_, hv⟩
  have h1 : x ≤ v / x := by omega
  exact (Nat.le_div_iff_mul_le hx).1 h1
theorem newton_pos {v x : Nat} (hx : 0 < x) (h0 : 0 < v) : 0 < (x + v / x) / 2 := by
  rcases Nat.lt_or_ge v x with h | h
  · generalize v / x = q
    omega
  · have : 0 < v / x := Nat.div_pos h hx
    generalize v / x = q at *
    omega
theorem root_start (v : Nat) : v < (2 ^ ((nb v + 1) / 2) + 1) * (2 ^ ((nb v + 1) / 2) + 1) := by
  have h1 := nb_lt v
  have h2 : 2 ^ nb v ≤ 2 ^ ((nb v + 1) / 2) * 2 ^ ((nb v + 1) / 2) := by rw [← Nat.pow_add]; exact Nat.pow_le_pow_right (by decide) (by omega)
  have h3 := Nat.mul_le_mul (Nat.le_succ (2 ^ ((nb v + 1) / 2))) (Nat.le_succ (2 ^ ((nb v + 1) / 2)))
  simp only [Nat.succ_eq_add_one] at h3
  omega
theorem rt_ex (v : Nat) : ∃ r, IsRt v r := by
  induction v with
  | zero => exact ⟨0, by decide, by decide⟩
  | succ v ih =>
    obtain ⟨r, h1, h2⟩ := ih
    rcases Nat.lt_or_ge (v + 1) ((r + 1) * (r + 1)) with h | h
    · exact ⟨r, by omega, h⟩
    · refine ⟨r + 1, h, ?_⟩
      have : (r + 1 + 1) * (r + 1 + 1) = (r + 1) * (r + 1) + 2 * r + 3 := by simp [Nat.add_mul, Nat.mul_add]; omega
      omega
/-- the root -/
noncomputable def rt (v : Nat) : Nat := Classical.choose (rt_ex v)
theorem rt_is (v : Nat) : IsRt v (rt v) := Classical.choose_spec (rt_ex v)
theorem rt_eq {v r : Nat} (h : IsRt v r) : rt v = r := rt_uniq (rt_is v) h
/-- the decimal digits, the lowest first -/
def digs (n : Nat) : List Nat := if h : n = 0 then [] else n % 10 :: digs (n / 10)
termination_by n
decreasing_by exact Nat.div_lt_self (Nat.pos_of_ne_zero h) (by decide)
theorem digs_zero : digs 0 = [] := by rw [digs]; rfl
theorem digs_pos {n : Nat} (h : n ≠ 0) : digs n = n % 10 :: digs (n / 10) := by rw [digs, dif_neg h]
theorem digs_lt (n : Nat) : ∀ x ∈ digs n, x < 10 := by
  induction n using Nat.strongRecOn with
  | ind n ih =>
    by_cases h : n = 0
    · subst h; rw [digs_zero]; simp
    · rw [digs_pos h]
      intro x hx
      rcases List.mem_cons.1 hx with rfl | hx
      · exact Nat.mod_lt _ (by decide)
      · exact ih _ (Nat.div_lt_self (Nat.pos_of_ne_zero h) (by decide)) x hx
/-- the number that digits stand for, the highest first -/
def dval (l : List Nat) : Nat := l.foldl (fun n d => 10 * n + d) 0
theorem dval_snoc (l : List Nat) (d : Nat) : dval (l ++ [d]) = 10 * dval l + d := by simp [dval]
theorem dval_digs (n : Nat) : dval (digs n).reverse = n := by
  induction n using Nat.strongRecOn with
  | ind n ih =>
    by_cases h : n = 0
    · subst h; rw [digs_zero]; rfl
    · rw [digs_pos h, List.reverse_cons, dval_snoc, ih _ (Nat.div_lt_self (Nat.pos_of_ne_zero h) (by decide))]
      omega
theorem digs_len (n k : Nat) (h : n < 10 ^ k) : (digs n).length ≤ k := by
  induction k generalizing n with
  | zero => have : n = 0 := by simp at h; exact h
            subst this; rw [digs_zero]; exact Nat.le_refl _
  | succ k ih =>
    by_cases h0 : n = 0
    · subst h0; rw [digs_zero]; exact Nat.zero_le _
    · rw [digs_pos h0, List.length_cons]
      have := ih (n / 10) (by rw [Nat.pow_succ] at h; omega)
      omega
/-- the highest digit is not 0 -/
theorem digs_last (n : Nat) (k : Nat) (h : (digs n).length = k + 1) : (digs n).getD k 0 ≠ 0 := by
  induction n using Nat.strongRecOn generalizing k with
  | ind n ih =>
    by_cases h0 : n = 0
    · subst h0; rw [digs_zero] at h; cases h
    · rw [digs_pos h0] at h ⊢
      cases k with
      | zero =>
        rw [List.length_cons] at h
        have h2 : digs (n / 10) = [] := List.eq_nil_of_length_eq_zero (by omega)
        by_cases h3 : n / 10 = 0
        · simp; omega
        · rw [digs_pos h3] at h2; cases h2
      | succ k =>
        rw [List.length_cons] at h
        have := ih (n / 10) (Nat.div_lt_self (Nat.pos_of_ne_zero h0) (by decide)) k (by omega)
        simpa using this
end Go.Proofs.Ytcaaecmbbbdopaa.NL
namespace Go.Proofs.Ytcaaecmbbbdopaa.NL
open Go
theorem drop_set_same (l : List Nat) (o i x : Nat) : (l.set (o + i) x).drop o = (l.drop o).set i x := by
  rw [List.drop_set]
  rw [if_neg (by omega), show o + i - o = i by omega]
theorem take_set_same (l : List Nat) (i x : Nat) : (l.set i x).take i = l.take i := by
  rw [List.take_set_of_le (Nat.le_refl _)]
theorem getD_drop (l : List Nat) (o i : Nat) : (l.drop o).getD i 0 = l.getD (o + i) 0 := by
  rw [List.getD_eq_getElem?_getD, List.getD_eq_getElem?_getD, List.getElem?_drop]
theorem getD_set_eq {l : List Nat} {i x : Nat} (h : i < l.length) : (l.set i x).getD i 0 = x := by
  rw [List.getD_eq_getElem?_getD, List.getElem?_set_self h]; rfl
/-- what 'take' has done after i limbs -/
structure Tk (out d : List Nat) (o t i c1 c2 : Nat) (out' : List Nat) : Prop where
  len : out'.length = out.length
  ok : Ok out'
  off : ∀ j, (j < o ∨ o + i ≤ j) → out'.getD j 0 = out.getD j 0
  hc1 : c1 = val (d.take i) * t / 4294967296 ^ i
  hc2 : c2 ≤ 1
  eq : val ((out'.drop o).take i) + val (d.take i) * t = val ((out.drop o).take i) + 4294967296 ^ i * (c1 + c2)
theorem Tk.start {out d : List Nat} {o t : Nat} (h : Ok out) : Tk out d o t 0 0 0 out :=
  ⟨rfl, h, fun _ _ => rfl, by simp [val], by omega, by simp [val]⟩
theorem Tk.carry {out d : List Nat} {o t i c1 c2 : Nat} {out' : List Nat} (h : Tk out d o t i c1 c2 out') (hd : Ok d) (ht : t < 4294967296) : c1 < 4294967296 := by
  rw [h.hc1]
  have b := val_lt (hd.take i)
  have : 4294967296 ^ (d.take i).length ≤ 4294967296 ^ i := Nat.pow_le_pow_right (by decide) (by rw [List.length_take]; omega)
  apply Nat.div_lt_of_lt_mul
  have h1 : val (d.take i) < 4294967296 ^ i := by omega
  rcases Nat.eq_zero_or_pos t with h0 | h0
  · subst h0
    have := Nat.pow_pos (n := i) (show 0 < 4294967296 by decide)
    rw [Nat.mul_zero]
    omega
  · calc val (d.take i) * t < 4294967296 ^ i * t := Nat.mul_lt_mul_of_pos_right h1 h0
      _ ≤ 4294967296 ^ i * 4294967296 := Nat.mul_le_mul_left _ (by omega)
theorem Tk.step {out d : List Nat} {o t i c1 c2 : Nat} {out' : List Nat} (h : Tk out d o t i c1 c2 out') (hd : Ok d) (ht : t < 4294967296) (hi : o + i < out.length) :
    Tk out d o t (i + 1) ((d.getD i 0 * t + 0 + c1) / 4294967296) (brw (out.getD (o + i) 0) ((d.getD i 0 * t + 0 + c1) % 4294967296) c2)
      (out'.set (o + i) ((out.getD (o + i) 0 + 4294967296 - (d.getD i 0 * t + 0 + c1) % 4294967296 - c2) % 4294967296)) := by
  have hx : out.getD (o + i) 0 < 4294967296 := by rw [← h.off _ (.inr (Nat.le_refl _))]; exact h.ok.getD _
  have hm : (d.getD i 0 * t + 0 + c1) % 4294967296 < 4294967296 := Nat.mod_lt _ (by decide)
  have hb := brw_eq (out.getD (o + i) 0) ((d.getD i 0 * t + 0 + c1) % 4294967296) c2 hx hm h.hc2
  have hr : (out.getD (o + i) 0 + 4294967296 - (d.getD i 0 * t + 0 + c1) % 4294967296 - c2) % 4294967296 < 4294967296 := Nat.mod_lt _ (by decide)
  have hmd := Nat.mod_add_div (d.getD i 0 * t + 0 + c1) 4294967296
  have hc1 := h.hc1
  have heq := h.eq
  have hl := h.len
  refine ⟨by rw [List.length_set]; exact h.len, h.ok.set _ hr, ?_, ?_, brw_le _ _ _, ?_⟩
  · intro j hj
    rw [getD_set_ne (by omega)]
    exact h.off j (by omega)
  · rw [hc1, val_take_getD, Nat.pow_succ, ← Nat.div_div_eq_div_mul, Nat.add_mul, Nat.mul_assoc, Nat.add_mul_div_left _ _ (Nat.pow_pos (by decide)), Nat.add_zero, Nat.add_comm]
  · rw [drop_set_same, val_take_getD, take_set_same, getD_set_eq (by rw [List.length_drop]; omega), val_take_getD d, val_take_getD (out.drop o), getD_drop]
    generalize (out.getD (o + i) 0 + 4294967296 - (d.getD i 0 * t + 0 + c1) % 4294967296 - c2) % 4294967296 = r at *
    generalize brw (out.getD (o + i) 0) ((d.getD i 0 * t + 0 + c1) % 4294967296) c2 = c2' at *
    generalize (d.getD i 0 * t + 0 + c1) % 4294967296 = m at *
    generalize (d.getD i 0 * t + 0 + c1) / 4294967296 = c1' at *
    generalize out.getD (o + i) 0 = x at *
    have key : c1 + c2 + r + d.getD i 0 * t = x + 4294967296 * (c1' + c2') := by omega
    have k2 := congrArg (4294967296 ^ i * ·) key
    simp only [Nat.mul_add] at k2
    rw [Nat.add_mul, Nat.mul_assoc, Nat.pow_succ, Nat.mul_assoc]
    simp only [Nat.mul_add] at heq ⊢
    omega
/-- the end of 'take' -/
theorem Tk.stop {out d : List Nat} {o t k c1 c2 : Nat} {out' : List Nat} (h : Tk out d o t k c1 c2 out') (hd : Ok d) (ht : t < 4294967296) (hk : d.length < k) (ho : Ok out) :
    (c2 = 0 ∧ val d * t ≤ val ((out.drop o).take k) ∧ val ((out'.drop o).take k) = val ((out.drop o).take k) - val d * t) ∨ (c2 = 1 ∧ val ((out.drop o).take k) < val d * t) := by
  have hc1 := h.hc1
  have heq := h.eq
  have hc2 := h.hc2
  rw [val_take_all (l := d) (k := k) (by omega)] at hc1 heq
  have b := val_lt hd
  have hDt : val d * t < 4294967296 ^ k := by
    have h1 : val d * t ≤ val d * 4294967296 := Nat.mul_le_mul_left _ (by omega)
    have h2 : val d * 4294967296 < 4294967296 ^ d.length * 4294967296 := Nat.mul_lt_mul_of_pos_right b (by decide)
    rw [← Nat.pow_succ] at h2
    have h3 : 4294967296 ^ (d.length + 1) ≤ 4294967296 ^ k := Nat.pow_le_pow_right (by decide) (by omega)
    omega
  rw [Nat.div_eq_of_lt hDt] at hc1
  subst hc1
  have hp : val ((out'.drop o).take k) < 4294967296 ^ k := by
    have := val_lt ((h.ok.drop o).take k)
    have h3 : 4294967296 ^ ((out'.drop o).take k).length ≤ 4294967296 ^ k := Nat.pow_le_pow_right (by decide) (by rw [List.length_take]; omega)
    omega
  rw [Nat.zero_add] at heq
  have : c2 = 0 ∨ c2 = 1 := by omega
  rcases this with rfl | rfl
  · left; refine ⟨rfl, by omega, by omega⟩
  · right; refine ⟨rfl, by omega⟩
theorem ext_getD {l m : List Nat} (hl : l.length = m.length) (h : ∀ j, l.getD j 0 = m.getD j 0) : l = m := by
  apply List.ext_getElem hl
  intro j h1 h2
  have := h j
  rwa [List.getD_eq_getElem?_getD, List.getD_eq_getElem?_getD, List.getElem?_eq_getElem h1, List.getElem?_eq_getElem h2] at this
/-- laid back -/
theorem lay_back {out out' : List Nat} {o k : Nat} (hl : out'.length = out.length) (hk : o + k ≤ out.length) (h : ∀ j, (j < o ∨ o + k ≤ j) → out'.getD j 0 = out.getD j 0) :
    out'.take o ++ ((out.drop o).take k ++ out'.drop (o + k)) = out := by
  have e1 : out'.take o = out.take o := by
    apply ext_getD (by simp [hl])
    intro j
    rcases Nat.lt_or_ge j o with hj | hj
    · rw [List.getD_eq_getElem?_getD, List.getD_eq_getElem?_getD, List.getElem?_take_of_lt hj, List.getElem?_take_of_lt hj, ← List.getD_eq_getElem?_getD, ← List.getD_eq_getElem?_getD]
      exact h j (.inl hj)
    · rw [List.getD_eq_getElem?_getD, List.getD_eq_getElem?_getD, List.getElem?_eq_none (by simp; omega), List.getElem?_eq_none (by simp; omega)]
  have e2 : out'.drop (o + k) = out.drop (o + k) := by
    apply ext_getD (by simp [hl])
    intro j
    rw [getD_drop, getD_drop]
    exact h _ (.inr (by omega))
  rw [e1, e2, ← List.drop_drop, List.take_append_drop, List.take_append_drop]
/-- long division: j limbs of the quotient are still to be found -/
structure Dv (V D n m j : Nat) (r q : List Nat) : Prop where
  rlen : r.length = n + m
  rok : Ok r
  qlen : q.length = m
  qok : Ok q
  qz : ∀ i, i < j → q.getD i 0 = 0
  eq : val r + val q * D = V
  lt : val (r.drop j) < D
theorem Dv.start {V D n m : Nat} {r : List Nat} (h1 : r.length = n + m) (h2 : Ok r) (h3 : val r = V) (h4 : V < 4294967296 ^ m * D) : Dv V D n m m r (List.replicate m 0) :=
  ⟨h1, h2, by simp, Ok.zeros _, fun i _ => by simp [List.getElem?_replicate]; split <;> rfl, by rw [val_zeros]; omega, by
    rw [← val_div r h2, h3]
    exact Nat.div_lt_of_lt_mul h4⟩
/-- the limbs that are divided -/
theorem Dv.seg {V D n m j : Nat} {r q : List Nat} (h : Dv V D n m (j + 1) r q) (hD : D ≤ 4294967296 ^ n) :
    val ((r.drop j).take (n + 1)) = val (r.drop j) ∧ val (r.drop j) < 4294967296 * D ∧ val (r.drop (j + (n + 1))) = 0 := by
  have e := val_drop_getD r j
  have hl := h.lt
  have hx := h.rok.getD j
  have h1 : val (r.drop j) < 4294967296 * D := by omega
  have h2 : 4294967296 * D ≤ 4294967296 ^ (n + 1) := by
    rw [Nat.pow_succ, Nat.mul_comm]; exact Nat.mul_le_mul_right _ hD
  refine ⟨?_, h1, ?_⟩
  · rw [← val_mod _ (h.rok.drop j), Nat.mod_eq_of_lt (by omega)]
  · rw [← List.drop_drop, ← val_div _ (h.rok.drop j), Nat.div_eq_of_lt (by omega)]
/-- the guess from the two highest limbs is not too small -/
theorem Dv.guess {V n m j : Nat} {r q d : List Nat} (h : Dv V (val d) (n + 1) m (j + 1) r q) (hd : Ok d) (hn : d.length = n + 1) (htop : 0 < d.getD n 0) :
    val (r.drop j) / val d ≤ (r.getD (j + (n + 1)) 0 * 4294967296 + r.getD (j + n) 0) / d.getD n 0 ∧ val (r.drop j) / val d < 4294967296 := by
  have hD : val d ≤ 4294967296 ^ (n + 1) := by have := val_lt hd; rw [hn] at this; omega
  obtain ⟨e1, e2, e3⟩ := h.seg hD
  have hd1 : 4294967296 ^ n * d.getD n 0 ≤ val d := by
    have := val_split d n (by omega)
    rw [val_drop_getD] at this
    have h2 : 4294967296 ^ n * d.getD n 0 ≤ 4294967296 ^ n * (d.getD n 0 + 4294967296 * val (d.drop (n + 1))) := Nat.mul_le_mul_left _ (by omega)
    omega
  have hdp : 0 < val d := Nat.lt_of_lt_of_le (Nat.mul_pos (Nat.pow_pos (by decide)) htop) hd1
  refine ⟨guess_ge (R := val (r.drop j)) htop hd1 ?_ (Nat.div_mul_le_self _ _), quot_lt e2⟩
  have s := val_append ((r.drop j).take n) ((r.drop j).drop n)
  rw [List.take_append_drop] at s
  rw [List.drop_drop, val_drop_getD r (j + n), val_drop_getD r (j + n + 1), show j + n + 1 + 1 = j + (n + 1 + 1) by omega, e3] at s
  have b := val_lt ((h.rok.drop j).take n)
  have hlen : 4294967296 ^ ((r.drop j).take n).length ≤ 4294967296 ^ n := Nat.pow_le_pow_right (by decide) (by rw [List.length_take]; omega)
  have hlen2 : ((r.drop j).take n).length = n ∨ val ((r.drop j).drop n) = 0 := by
    rcases Nat.lt_or_ge (r.drop j).length n with hh | hh
    · right; rw [List.drop_of_length_le (by omega)]; rfl
    · left; rw [List.length_take]; omega
  rw [show j + (n + 1) = j + n + 1 by omega]
  rcases hlen2 with hh | hh
  · rw [hh] at s b
    have : 4294967296 ^ n * (r.getD (j + n) 0 + 4294967296 * (r.getD (j + n + 1) 0 + 4294967296 * 0)) = 4294967296 ^ n * (r.getD (j + n + 1) 0 * 4294967296 + r.getD (j + n) 0) := by congr 1; omega
    rw [s, this, Nat.mul_add (4294967296 ^ n) (r.getD (j + n + 1) 0 * 4294967296 + r.getD (j + n) 0) 1, Nat.mul_one]
    omega
  · rw [List.drop_drop, val_drop_getD, val_drop_getD r (j + n + 1), show j + n + 1 + 1 = j + (n + 1 + 1) by omega, e3] at hh
    rw [hh, Nat.mul_zero] at s
    have h5 : 4294967296 ^ n * 1 ≤ 4294967296 ^ n * (r.getD (j + n + 1) 0 * 4294967296 + r.getD (j + n) 0 + 1) := Nat.mul_le_mul_left _ (by omega)
    omega
theorem Dv.next {V D n m j : Nat} {r q r' : List Nat} {x : Nat} (h : Dv V D n m (j + 1) r q) (hD : D ≤ 4294967296 ^ n) (hj : j < m) (hx : x < 4294967296) (hxe : x = val (r.drop j) / D) (hDp : 0 < D)
    (hl : r'.length = r.length) (hok : Ok r') (ho : ∀ i, (i < j ∨ j + (n + 1) ≤ i) → r'.getD i 0 = r.getD i 0) (hv : val ((r'.drop j).take (n + 1)) = val ((r.drop j).take (n + 1)) - D * x) :
    Dv V D n m j r' (q.set j x) := by
  obtain ⟨e1, e2, e3⟩ := h.seg hD
  have hrl := h.rlen
  have hql := h.qlen
  have hmx : D * x ≤ val (r.drop j) := by rw [hxe]; exact Nat.mul_div_le _ _
  have hmod : val (r.drop j) - D * x < D := by
    have := Nat.mod_lt (val (r.drop j)) hDp
    have h2 := Nat.div_add_mod (val (r.drop j)) D
    rw [← hxe] at h2
    omega
  have ed : r'.drop (j + (n + 1)) = r.drop (j + (n + 1)) := by
    apply ext_getD (by simp [hl])
    intro i
    rw [getD_drop, getD_drop]
    exact ho _ (.inr (by omega))
  have et : r'.take j = r.take j := by
    apply ext_getD (by simp [hl])
    intro i
    rcases Nat.lt_or_ge i j with hi | hi
    · rw [List.getD_eq_getElem?_getD, List.getD_eq_getElem?_getD, List.getElem?_take_of_lt hi, List.getElem?_take_of_lt hi, ← List.getD_eq_getElem?_getD, ← List.getD_eq_getElem?_getD]
      exact ho i (.inl hi)
    · rw [List.getD_eq_getElem?_getD, List.getD_eq_getElem?_getD, List.getElem?_eq_none (by simp; omega), List.getElem?_eq_none (by simp; omega)]
  have ev : val (r'.drop j) = val (r.drop j) - D * x := by
    have s := val_append ((r'.drop j).take (n + 1)) ((r'.drop j).drop (n + 1))
    rw [List.take_append_drop, List.drop_drop, ed, e3, hv, e1] at s
    omega
  refine ⟨by omega, hok, by rw [List.length_set]; exact h.qlen, h.qok.set _ hx, ?_, ?_, by omega⟩
  · intro i hi
    rw [getD_set_ne (by omega)]
    exact h.qz i (by omega)
  · have heq := h.eq
    have hq := val_set' (out := q) (i := j) (by omega) x
    rw [h.qz j (by omega), Nat.mul_zero, Nat.add_zero] at hq
    rw [hq]
    have s1 := val_split r j (by omega)
    have s2 := val_split r' j (by omega)
    rw [et, ev, Nat.mul_sub] at s2
    have h6 : 4294967296 ^ j * (D * x) ≤ 4294967296 ^ j * val (r.drop j) := Nat.mul_le_mul_left _ hmx
    rw [Nat.add_mul, Nat.mul_assoc, Nat.mul_comm x D]
    omega
theorem Dv.stop {a b u n m : Nat} {r q : List Nat} (h : Dv (a * 2 ^ u) (b * 2 ^ u) n m 0 r q) (hb : 0 < b) : val q = a / b ∧ val r = a % b * 2 ^ u := by
  have heq := h.eq
  have hlt := h.lt
  rw [List.drop_zero] at hlt
  have hp := Nat.two_pow_pos u
  have hbp : 0 < b * 2 ^ u := Nat.mul_pos hb hp
  have e1 : a * 2 ^ u / (b * 2 ^ u) = val q := by
    rw [← heq, Nat.mul_comm (val q), Nat.add_mul_div_left _ _ hbp, Nat.div_eq_of_lt hlt, Nat.zero_add]
  have e2 : a * 2 ^ u % (b * 2 ^ u) = val r := by
    rw [← heq, Nat.mul_comm (val q), Nat.add_mul_mod_self_left, Nat.mod_eq_of_lt hlt]
  rw [Nat.mul_div_mul_right _ _ hp] at e1
  rw [Nat.mul_mod_mul_right] at e2
  exact ⟨e1.symm, e2.symm⟩
/-- the shift that makes the highest bit 1 -/
theorem norm_up {b n : Nat} (hb : b ≠ 0) (hn : (limbs b).length = n + 1) : ∃ u, u = 32 - nb ((limbs b).getD n 0) ∧ u < 32 ∧ (limbs (b * 2 ^ u)).length = n + 1 ∧ 2 ^ (32 * (n + 1) - 1) ≤ b * 2 ^ u := by
  have h1 := nb_top hn
  have ht := trim_limbs b n hn
  have h2 := nb_pos ht
  have h3 : nb ((limbs b).getD n 0) ≤ 32 := (nb_le _ _).2 (by have := (ok_limbs b).getD n; omega)
  refine ⟨_, rfl, by omega, ?_, ?_⟩
  · have hlt : b * 2 ^ (32 - nb ((limbs b).getD n 0)) < 4294967296 ^ (n + 1) := by
      have := nb_lt b
      rw [pow32]
      have h4 : 2 ^ (32 * (n + 1)) = 2 ^ nb b * 2 ^ (32 - nb ((limbs b).getD n 0)) := by rw [← Nat.pow_add]; congr 1; omega
      rw [h4]
      exact Nat.mul_lt_mul_of_pos_right this (Nat.two_pow_pos _)
    have l1 := (limbs_len (b * 2 ^ (32 - nb ((limbs b).getD n 0))) (n + 1)).2 hlt
    have l2 := limbs_len_mono (m := b) (n := b * 2 ^ (32 - nb ((limbs b).getD n 0))) (Nat.le_mul_of_pos_right _ (Nat.two_pow_pos _))
    omega
  · have := nb_ge hb
    have h4 : 2 ^ (32 * (n + 1) - 1) = 2 ^ (nb b - 1) * 2 ^ (32 - nb ((limbs b).getD n 0)) := by rw [← Nat.pow_add]; congr 1; omega
    rw [h4]
    exact Nat.mul_le_mul_right _ this
theorem norm_lt {a b u n m : Nat} (hu : u < 32) (hD : 2 ^ (32 * (n + 1) - 1) ≤ b * 2 ^ u) (hm : (limbs a).length + 1 = n + 1 + m) : a * 2 ^ u < 4294967296 ^ m * (b * 2 ^ u) := by
  have h1 := (limbs_len a _).1 (Nat.le_refl _)
  have h2 : a * 2 ^ u < 4294967296 ^ (limbs a).length * 2 ^ u := Nat.mul_lt_mul_of_pos_right h1 (Nat.two_pow_pos u)
  have h3 : 4294967296 ^ (limbs a).length * 2 ^ u ≤ 4294967296 ^ m * 2 ^ (32 * (n + 1) - 1) := by
    rw [pow32, pow32, ← Nat.pow_add, ← Nat.pow_add]
    exact Nat.pow_le_pow_right (by decide) (by omega)
  have h4 := Nat.mul_le_mul_left (4294967296 ^ m) hD
  omega
/-- the shifted number, with zeros behind it -/
theorem pad_limbs {a u k : Nat} (hu : u < 32) (hk : (limbs a).length + 1 = k) : (limbs (a * 2 ^ u)).length ≤ k := by
  have h1 := (limbs_len a _).1 (Nat.le_refl _)
  refine (limbs_len _ _).2 ?_
  have h2 : a * 2 ^ u < 4294967296 ^ (limbs a).length * 2 ^ u := Nat.mul_lt_mul_of_pos_right h1 (Nat.two_pow_pos u)
  have h3 : (2 : Nat) ^ u ≤ 2 ^ 32 := Nat.pow_le_pow_right (by decide) (by omega)
  have h4 := Nat.mul_le_mul_left (4294967296 ^ (limbs a).length) h3
  rw [← hk, Nat.pow_succ]
  omega
theorem val_pad (l : List Nat) (k : Nat) : val (l ++ List.replicate k 0) = val l := by rw [val_append, val_zeros, Nat.mul_zero, Nat.add_zero]
end Go.Proofs.Ytcaaecmbbbdopaa.NL
