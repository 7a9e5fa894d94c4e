/- Plain facts and contracts of functions of the program, out of walks. Their conditions stand ahead of each. -/

set_option linter.unusedVariables false
set_option linter.unusedSimpArgs false
namespace Go.Proofs.Ytcaaecmbbbdopaa.NL
open Go
/-- the number that limbs stand for -/
def val : List Nat → Nat
  | [] => 0
  | x :: l => x + 4294967296 * val l
/-- all limbs are less than 2^32 -/
def Ok (l : List Nat) : Prop := ∀ x ∈ l, x < 4294967296
theorem Ok.nil : Ok [] := by intro x h; cases h
theorem Ok.cons {x : Nat} {l : List Nat} (hx : x < 4294967296) (h : Ok l) : Ok (x :: l) := by
  intro y hy; rcases List.mem_cons.1 hy with rfl | hy; exact hx; exact h y hy
theorem Ok.head {x : Nat} {l : List Nat} (h : Ok (x :: l)) : x < 4294967296 := h x (List.mem_cons_self ..)
theorem Ok.tail {x : Nat} {l : List Nat} (h : Ok (x :: l)) : Ok l := fun y hy => h y (List.mem_cons_of_mem _ hy)
theorem Ok.append {l m : List Nat} (h : Ok l) (k : Ok m) : Ok (l ++ m) := by
  intro x hx; rcases List.mem_append.1 hx with hx | hx; exact h x hx; exact k x hx
theorem Ok.left {l m : List Nat} (h : Ok (l ++ m)) : Ok l := fun x hx => h x (List.mem_append_left _ hx)
theorem Ok.right {l m : List Nat} (h : Ok (l ++ m)) : Ok m := fun x hx => h x (List.mem_append_right _ hx)
theorem Ok.take {l : List Nat} (h : Ok l) (k : Nat) : Ok (l.take k) := fun x hx => h x (List.mem_of_mem_take hx)
theorem Ok.drop {l : List Nat} (h : Ok l) (k : Nat) : Ok (l.drop k) := fun x hx => h x (List.mem_of_mem_drop hx)
theorem Ok.get {l : List Nat} (h : Ok l) {k : Nat} (hk : k < l.length) : l[k] < 4294967296 := h _ (List.getElem_mem hk)
theorem Ok.getD {l : List Nat} (h : Ok l) (k : Nat) : l.getD k 0 < 4294967296 := by
  rw [List.getD_eq_getElem?_getD]
  rcases Nat.lt_or_ge k l.length with hk | hk
  · rw [List.getElem?_eq_getElem hk]; exact h.get hk
  · rw [List.getElem?_eq_none hk]; decide
theorem Ok.set {l : List Nat} (h : Ok l) (k : Nat) {x : Nat} (hx : x < 4294967296) : Ok (l.set k x) := by
  intro y hy
  rcases List.mem_or_eq_of_mem_set hy with hy | rfl
  · exact h y hy
  · exact hx
theorem Ok.zeros (n : Nat) : Ok (List.replicate n 0) := by intro x hx; rw [(List.mem_replicate.1 hx).2]; decide
theorem val_append (l m : List Nat) : val (l ++ m) = val l + 4294967296 ^ l.length * val m := by
  induction l with
  | nil => simp [val]
  | cons x l ih =>
    rw [List.cons_append, val, val, ih, List.length_cons, Nat.pow_succ, Nat.mul_add, ← Nat.mul_assoc, Nat.mul_comm 4294967296 (4294967296 ^ l.length), Nat.add_assoc]
theorem val_single (x : Nat) : val [x] = x := by simp [val]
theorem val_snoc (l : List Nat) (x : Nat) : val (l ++ [x]) = val l + 4294967296 ^ l.length * x := by rw [val_append, val_single]
theorem val_zeros (n : Nat) : val (List.replicate n 0) = 0 := by
  induction n with
  | zero => rfl
  | succ n ih => rw [List.replicate_succ, val, ih]
theorem val_lt : ∀ {l : List Nat}, Ok l → val l < 4294967296 ^ l.length := by
  intro l
  induction l with
  | nil => intro _; simp [val]
  | cons x l ih =>
    intro h
    have h1 := ih h.tail
    have h2 := h.head
    rw [val, List.length_cons, Nat.pow_succ, Nat.mul_comm]
    have : val l * 4294967296 + 4294967296 ≤ 4294967296 ^ l.length * 4294967296 := by
      have := Nat.mul_le_mul_right 4294967296 (Nat.succ_le_of_lt h1)
      rw [Nat.succ_mul] at this
      exact this
    omega
theorem take_succ {l : List Nat} {k : Nat} (hk : k < l.length) : l.take (k + 1) = l.take k ++ [l[k]] := by rw [List.take_succ_eq_append_getElem hk]
theorem val_take_succ {l : List Nat} {k : Nat} (hk : k < l.length) : val (l.take (k + 1)) = val (l.take k) + 4294967296 ^ k * l[k] := by
  rw [take_succ hk, val_snoc, List.length_take, Nat.min_eq_left (by omega)]
theorem val_take_getD (l : List Nat) (k : Nat) : val (l.take (k + 1)) = val (l.take k) + 4294967296 ^ k * l.getD k 0 := by
  rcases Nat.lt_or_ge k l.length with hk | hk
  · rw [val_take_succ hk, List.getD_eq_getElem?_getD, List.getElem?_eq_getElem hk]; rfl
  · rw [List.getD_eq_getElem?_getD, List.getElem?_eq_none hk, List.take_of_length_le (by omega), List.take_of_length_le hk]; simp
theorem val_take_all {l : List Nat} {k : Nat} (hk : l.length ≤ k) : val (l.take k) = val l := by rw [List.take_of_length_le hk]
theorem val_split (l : List Nat) (k : Nat) (hk : k ≤ l.length) : val l = val (l.take k) + 4294967296 ^ k * val (l.drop k) := by
  have h := val_append (l.take k) (l.drop k)
  rw [List.take_append_drop, List.length_take, Nat.min_eq_left hk] at h
  exact h
theorem val_drop_getD (l : List Nat) (k : Nat) : val (l.drop k) = l.getD k 0 + 4294967296 * val (l.drop (k + 1)) := by
  rcases Nat.lt_or_ge k l.length with hk | hk
  · rw [List.drop_eq_getElem_cons hk, val, List.getD_eq_getElem?_getD, List.getElem?_eq_getElem hk]; rfl
  · rw [List.drop_of_length_le hk, List.drop_of_length_le (by omega), List.getD_eq_getElem?_getD, List.getElem?_eq_none hk]; rfl
/-- the limbs of a number, none of them behind the last one that is not 0 -/
def limbs (n : Nat) : List Nat := if h : n = 0 then [] else n % 4294967296 :: limbs (n / 4294967296)
termination_by n
decreasing_by exact Nat.div_lt_self (Nat.pos_of_ne_zero h) (by decide)
theorem limbs_zero : limbs 0 = [] := by rw [limbs]; rfl
theorem limbs_pos {n : Nat} (h : n ≠ 0) : limbs n = n % 4294967296 :: limbs (n / 4294967296) := by rw [limbs, dif_neg h]
theorem val_limbs (n : Nat) : val (limbs n) = n := by
  induction n using Nat.strongRecOn with
  | ind n ih =>
    by_cases h : n = 0
    · subst h; rw [limbs_zero]; rfl
    · rw [limbs_pos h, val, ih _ (Nat.div_lt_self (Nat.pos_of_ne_zero h) (by decide))]; omega
theorem ok_limbs (n : Nat) : Ok (limbs n) := by
  induction n using Nat.strongRecOn with
  | ind n ih =>
    by_cases h : n = 0
    · subst h; rw [limbs_zero]; exact Ok.nil
    · rw [limbs_pos h]; exact Ok.cons (Nat.mod_lt _ (by decide)) (ih _ (Nat.div_lt_self (Nat.pos_of_ne_zero h) (by decide)))
theorem limbs_nil {n : Nat} : limbs n = [] ↔ n = 0 := by
  constructor
  · intro h
    have := val_limbs n
    rw [h] at this
    exact this.symm
  · rintro rfl; exact limbs_zero
theorem limbs_inj {m n : Nat} (h : limbs m = limbs n) : m = n := by rw [← val_limbs m, h, val_limbs]
/-- the last limb is not 0 -/
def Trim (l : List Nat) : Prop := ∀ k, l.length = k + 1 → l.getD k 0 ≠ 0
theorem Trim.nil : Trim [] := by intro k hk; cases hk
theorem trim_limbs (n : Nat) : Trim (limbs n) := by
  induction n using Nat.strongRecOn with
  | ind n ih =>
    by_cases h : n = 0
    · subst h; rw [limbs_zero]; exact Trim.nil
    · rw [limbs_pos h]
      have h1 := ih _ (Nat.div_lt_self (Nat.pos_of_ne_zero h) (by decide : 1 < 4294967296))
      intro k hk
      cases k with
      | zero =>
        rw [List.length_cons] at hk
        have h2 : limbs (n / 4294967296) = [] := List.eq_nil_of_length_eq_zero (by omega)
        rw [limbs_nil] at h2
        simp
        omega
      | succ k =>
        rw [List.length_cons] at hk
        have := h1 k (by omega)
        simpa using this
theorem limbs_val : ∀ {l : List Nat}, Ok l → Trim l → limbs (val l) = l := by
  intro l
  induction l with
  | nil => intro _ _; exact limbs_zero
  | cons x l ih =>
    intro h t
    have hx := h.head
    have t' : Trim l := by
      intro k hk
      have := t (k + 1) (by simp [hk])
      simpa using this
    have hne : val (x :: l) ≠ 0 := by
      intro h0
      rw [val] at h0
      have hx0 : x = 0 := by omega
      have hl : val l = 0 := by omega
      have e := ih h.tail t'
      rw [hl, limbs_zero] at e
      subst e
      have := t 0 rfl
      simp at this
      omega
    rw [limbs_pos hne, val, show (x + 4294967296 * val l) % 4294967296 = x by omega, show (x + 4294967296 * val l) / 4294967296 = val l by omega, ih h.tail t']
theorem limbs_len (n k : Nat) : (limbs n).length ≤ k ↔ n < 4294967296 ^ k := by
  constructor
  · intro h
    have h1 := val_lt (ok_limbs n)
    rw [val_limbs] at h1
    exact Nat.lt_of_lt_of_le h1 (Nat.pow_le_pow_right (by decide) h)
  · intro h
    rcases Nat.lt_or_ge k (limbs n).length with hl | hl
    · exfalso
      -- the last limb is not 0
      obtain ⟨m, hm⟩ : ∃ m, (limbs n).length = m + 1 := ⟨(limbs n).length - 1, by omega⟩
      have t := trim_limbs n m hm
      have s := val_split (limbs n) m (by omega)
      rw [val_limbs, val_drop_getD] at s
      have : 4294967296 ^ k ≤ 4294967296 ^ m := Nat.pow_le_pow_right (by decide) (by omega)
      have h2 : 4294967296 ^ m * 1 ≤ 4294967296 ^ m * ((limbs n).getD m 0 + 4294967296 * val ((limbs n).drop (m + 1))) := Nat.mul_le_mul_left _ (by omega)
      omega
    · exact hl
theorem limbs_len_mono {m n : Nat} (h : m ≤ n) : (limbs m).length ≤ (limbs n).length :=
  (limbs_len m _).2 (Nat.lt_of_le_of_lt h ((limbs_len n _).1 (Nat.le_refl _)))
theorem limbs_len_le_of_ok {l : List Nat} (h : Ok l) : (limbs (val l)).length ≤ l.length := (limbs_len _ _).2 (val_lt h)
/-- the limbs of a list's number are the list without zeros at its end -/
theorem limbs_take {l : List Nat} (h : Ok l) {k : Nat} (hk : k ≤ l.length) (hv : val (l.take k) = val l) (ht : Trim (l.take k)) : l.take k = limbs (val l) := by
  rw [← hv, limbs_val (h.take k) ht]
/-- valid limbs -/
theorem limbs_of_trim {l : List Nat} (h : Ok l) (t : Trim l) : ∃ n, l = limbs n := ⟨val l, (limbs_val h t).symm⟩
theorem limbs_lt_of_len {m n : Nat} (h : (limbs m).length < (limbs n).length) : m < n := by
  rcases Nat.lt_or_ge m n with h1 | h1
  · exact h1
  · have := limbs_len_mono h1; omega
theorem limbs_one {n : Nat} (h0 : n ≠ 0) (h : n < 4294967296) : limbs n = [n] := by
  rw [limbs_pos h0, show n % 4294967296 = n by omega, show n / 4294967296 = 0 by omega, limbs_zero]
/-- Two lists of one length are compared by their last limbs that differ. -/
theorem val_lt_of_drop {l m : List Nat} (hl : Ok l) (hlen : l.length = m.length) {k : Nat} (hk : k < l.length) (he : l.drop (k + 1) = m.drop (k + 1)) (h : l.getD k 0 < m.getD k 0) : val l < val m := by
  have s1 := val_split l k (by omega)
  have s2 := val_split m k (by omega)
  rw [val_drop_getD] at s1 s2
  rw [he] at s1
  have b := val_lt (hl.take k)
  rw [List.length_take, Nat.min_eq_left (by omega)] at b
  have h3 : 4294967296 ^ k * (l.getD k 0 + 4294967296 * val (m.drop (k + 1))) + 4294967296 ^ k ≤ 4294967296 ^ k * (m.getD k 0 + 4294967296 * val (m.drop (k + 1))) := by
    have := Nat.mul_le_mul_left (4294967296 ^ k) (show l.getD k 0 + 4294967296 * val (m.drop (k + 1)) + 1 ≤ m.getD k 0 + 4294967296 * val (m.drop (k + 1)) by omega)
    rw [Nat.mul_add _ _ 1, Nat.mul_one] at this
    exact this
  omega
theorem drop_eq_cons {l m : List Nat} {k : Nat} (hl : k < l.length) (hm : k < m.length) (he : l.drop (k + 1) = m.drop (k + 1)) (h : l.getD k 0 = m.getD k 0) : l.drop k = m.drop k := by
  have e1 := List.drop_eq_getElem_cons hl
  have e2 := List.drop_eq_getElem_cons hm
  rw [List.getD_eq_getElem?_getD, List.getD_eq_getElem?_getD, List.getElem?_eq_getElem hl, List.getElem?_eq_getElem hm] at h
  have h' : l[k] = m[k] := by simpa using h
  rw [e1, e2, he, h']
end Go.Proofs.Ytcaaecmbbbdopaa.NL
namespace Go.Proofs.Ytcaaecmbbbdopaa.NL
open Go
theorem set_zeros (pre : List Nat) (n : Nat) (x : Nat) : (pre ++ List.replicate (n + 1) 0).set pre.length x = (pre ++ [x]) ++ List.replicate n 0 := by
  rw [List.replicate_succ, List.set_append_right _ _ (Nat.le_refl _), Nat.sub_self, List.set_cons_zero, List.append_assoc]; rfl
theorem set_zeros' {pre : List Nat} {k n : Nat} (hk : pre.length = k) (hn : k < n) (x : Nat) : (pre ++ List.replicate (n - k) 0).set k x = (pre ++ [x]) ++ List.replicate (n - (k + 1)) 0 := by
  subst hk
  rw [show n - pre.length = (n - (pre.length + 1)) + 1 by omega, set_zeros]
theorem pow_split (k s : Nat) : 4294967296 ^ k * (s % 4294967296) + 4294967296 ^ (k + 1) * (s / 4294967296) = 4294967296 ^ k * s := by
  have h := Nat.mod_add_div s 4294967296
  rw [Nat.pow_succ, Nat.mul_assoc, ← Nat.mul_add, h]
theorem add_step {pre l1 l2 : List Nat} {k c : Nat} (hk : pre.length = k) (h : val pre + 4294967296 ^ k * c = val (l1.take k) + val (l2.take k)) :
    val (pre ++ [(l1.getD k 0 + l2.getD k 0 + c) % 4294967296]) + 4294967296 ^ (k + 1) * ((l1.getD k 0 + l2.getD k 0 + c) / 4294967296) = val (l1.take (k + 1)) + val (l2.take (k + 1)) := by
  rw [val_snoc, hk, val_take_getD, val_take_getD]
  have := pow_split k (l1.getD k 0 + l2.getD k 0 + c)
  rw [Nat.mul_add _ (l1.getD k 0 + l2.getD k 0), Nat.mul_add] at this
  generalize 4294967296 ^ (k + 1) * ((l1.getD k 0 + l2.getD k 0 + c) / 4294967296) = a at *
  generalize 4294967296 ^ k * ((l1.getD k 0 + l2.getD k 0 + c) % 4294967296) = b at *
  generalize 4294967296 ^ k * c = d at *
  generalize 4294967296 ^ k * l1.getD k 0 = e at *
  generalize 4294967296 ^ k * l2.getD k 0 = f at *
  omega
theorem add_end' {p a b P Q c q1 q2 : Nat} (h : p + Q * c = a + b) (b1 : a < q1) (b2 : b < q2) (p1 : q1 ≤ P) (p2 : q2 ≤ P) (hQ : P + P ≤ Q) : p = a + b ∧ c = 0 := by
  have hc : c = 0 := by
    rcases Nat.eq_zero_or_pos c with hc | hc
    · exact hc
    · have := Nat.le_mul_of_pos_right Q hc
      omega
  subst hc
  exact ⟨by omega, rfl⟩
/-- the sum is whole when all limbs are done -/
theorem add_end {pre l1 l2 : List Nat} {n c : Nat} (o1 : Ok l1) (o2 : Ok l2) (h1 : l1.length < n) (h2 : l2.length < n) (h : val pre + 4294967296 ^ n * c = val (l1.take n) + val (l2.take n)) : val pre = val l1 + val l2 ∧ c = 0 := by
  rw [val_take_all (Nat.le_of_lt h1), val_take_all (Nat.le_of_lt h2)] at h
  have b1 := val_lt o1
  have b2 := val_lt o2
  obtain ⟨m, rfl⟩ : ∃ m, n = m + 1 := ⟨n - 1, by omega⟩
  have p1 : 4294967296 ^ l1.length ≤ 4294967296 ^ m := Nat.pow_le_pow_right (by decide) (by omega)
  have p2 : 4294967296 ^ l2.length ≤ 4294967296 ^ m := Nat.pow_le_pow_right (by decide) (by omega)
  have hQ : 4294967296 ^ m + 4294967296 ^ m ≤ 4294967296 ^ (m + 1) := by
    rw [Nat.pow_succ]
    generalize 4294967296 ^ m = P
    omega
  exact add_end' h b1 b2 p1 p2 hQ
/-- what is borrowed -/
def brw (x y c : Nat) : Nat := if x < y + c then 1 else 0
theorem brw_le (x y c : Nat) : brw x y c ≤ 1 := by unfold brw; split <;> omega
theorem brw_eq (x y c : Nat) (hx : x < 4294967296) (hy : y < 4294967296) (hc : c ≤ 1) : (x + 4294967296 - y - c) % 4294967296 + y + c = x + 4294967296 * brw x y c := by unfold brw; split <;> omega
theorem sub_step {pre l1 l2 : List Nat} {k c : Nat} (o1 : Ok l1) (o2 : Ok l2) (hc : c ≤ 1) (hk : pre.length = k) (h : val pre + val (l2.take k) = val (l1.take k) + 4294967296 ^ k * c) :
    val (pre ++ [(l1.getD k 0 + 4294967296 - l2.getD k 0 - c) % 4294967296]) + val (l2.take (k + 1)) = val (l1.take (k + 1)) + 4294967296 ^ (k + 1) * brw (l1.getD k 0) (l2.getD k 0) c := by
  rw [val_snoc, hk, val_take_getD, val_take_getD]
  have e := brw_eq (l1.getD k 0) (l2.getD k 0) c (o1.getD k) (o2.getD k) hc
  have := congrArg (4294967296 ^ k * ·) e
  simp only [Nat.mul_add, ← Nat.mul_assoc] at this
  rw [Nat.pow_succ]
  omega
theorem sub_end {pre l1 l2 : List Nat} {n c : Nat} (ok : Ok pre) (hp : pre.length = n) (h1 : l1.length ≤ n) (h2 : l2.length ≤ n) (hle : val l2 ≤ val l1) (h : val pre + val (l2.take n) = val (l1.take n) + 4294967296 ^ n * c) : val pre = val l1 - val l2 ∧ c = 0 := by
  rw [val_take_all h1, val_take_all h2] at h
  have b := val_lt ok
  rw [hp] at b
  have hc : c = 0 := by
    rcases Nat.eq_zero_or_pos c with hc | hc
    · exact hc
    · have := Nat.mul_le_mul_left (4294967296 ^ n) hc
      omega
  subst hc
  exact ⟨by omega, rfl⟩
theorem val_set {l : List Nat} {k : Nat} (hk : k < l.length) (x : Nat) : val (l.set k x) + 4294967296 ^ k * l.getD k 0 = val l + 4294967296 ^ k * x := by
  induction l generalizing k with
  | nil => simp at hk
  | cons y l ih =>
    cases k with
    | zero => simp [val]; omega
    | succ k =>
      have := ih (k := k) (by simpa using hk)
      simp only [List.set_cons_succ, val, List.getD_cons_succ]
      have h2 := congrArg (4294967296 * ·) this
      simp only [Nat.mul_add, ← Nat.mul_assoc] at h2
      rw [Nat.pow_succ, Nat.mul_comm (4294967296 ^ k) 4294967296]
      omega
end Go.Proofs.Ytcaaecmbbbdopaa.NL
namespace Go.Proofs.Ytcaaecmbbbdopaa.NL
open Go
theorem limbs_prefix {l : List Nat} (h : Ok l) : l.take (limbs (val l)).length = limbs (val l) := by
  induction l with
  | nil => simp [val, limbs_zero]
  | cons x l ih =>
    by_cases h0 : val (x :: l) = 0
    · rw [h0, limbs_zero]; rfl
    · have hx := h.head
      rw [limbs_pos h0, val, show (x + 4294967296 * val l) % 4294967296 = x by omega, show (x + 4294967296 * val l) / 4294967296 = val l by omega, List.length_cons, List.take_succ_cons, ih h.tail]
end Go.Proofs.Ytcaaecmbbbdopaa.NL
namespace Go.Proofs.Ytcaaecmbbbdopaa.NL
open Go
theorem mul_carry {x y z c : Nat} (hx : x < 4294967296) (hy : y < 4294967296) (hz : z < 4294967296) (hc : c < 4294967296) : (x * y + z + c) / 4294967296 < 4294967296 := by
  have : x * y ≤ 4294967295 * 4294967295 := Nat.mul_le_mul (by omega) (by omega)
  omega
theorem mul_step {out l2 : List Nat} {k j c x V : Nat} (hj : k + j < out.length) (h : val out + 4294967296 ^ (k + j) * c = V + 4294967296 ^ k * (x * val (l2.take j))) :
    val (out.set (k + j) ((x * l2.getD j 0 + out.getD (k + j) 0 + c) % 4294967296)) + 4294967296 ^ (k + (j + 1)) * ((x * l2.getD j 0 + out.getD (k + j) 0 + c) / 4294967296) = V + 4294967296 ^ k * (x * val (l2.take (j + 1))) := by
  have s := val_set hj ((x * l2.getD j 0 + out.getD (k + j) 0 + c) % 4294967296)
  have p := pow_split (k + j) (x * l2.getD j 0 + out.getD (k + j) 0 + c)
  rw [Nat.mul_add _ (x * l2.getD j 0 + out.getD (k + j) 0), Nat.mul_add] at p
  rw [val_take_getD, Nat.mul_add x, Nat.mul_add (4294967296 ^ k), ← Nat.add_assoc k j 1]
  have e : 4294967296 ^ k * (x * (4294967296 ^ j * l2.getD j 0)) = 4294967296 ^ (k + j) * (x * l2.getD j 0) := by
    rw [Nat.pow_add]
    ac_rfl
  rw [e]
  generalize 4294967296 ^ (k + j + 1) * ((x * l2.getD j 0 + out.getD (k + j) 0 + c) / 4294967296) = a1 at *
  generalize val (out.set (k + j) ((x * l2.getD j 0 + out.getD (k + j) 0 + c) % 4294967296)) = a2 at *
  generalize 4294967296 ^ (k + j) * ((x * l2.getD j 0 + out.getD (k + j) 0 + c) % 4294967296) = a3 at *
  generalize 4294967296 ^ (k + j) * (x * l2.getD j 0) = a4 at *
  generalize 4294967296 ^ (k + j) * out.getD (k + j) 0 = a5 at *
  generalize 4294967296 ^ (k + j) * c = a6 at *
  generalize 4294967296 ^ k * (x * val (l2.take j)) = a7 at *
  omega
theorem mul_round {out l1 l2 : List Nat} {k c : Nat} (hk : k + l2.length < out.length) (hz : out.getD (k + l2.length) 0 = 0) (h : val out + 4294967296 ^ (k + l2.length) * c = val (l1.take k) * val l2 + 4294967296 ^ k * (l1.getD k 0 * val (l2.take l2.length))) :
    val (out.set (k + l2.length) c) = val (l1.take (k + 1)) * val l2 := by
  have s := val_set hk c
  rw [hz, Nat.mul_zero, Nat.add_zero] at s
  rw [s, h, val_take_getD, List.take_length, Nat.add_mul, Nat.mul_assoc]
theorem getD_set_ne {l : List Nat} {i j x : Nat} (h : i ≠ j) : (l.set i x).getD j 0 = l.getD j 0 := by
  rw [List.getD_eq_getElem?_getD, List.getD_eq_getElem?_getD, List.getElem?_set_ne h]
end Go.Proofs.Ytcaaecmbbbdopaa.NL
namespace Go.Proofs.Ytcaaecmbbbdopaa.Ang
def wv : List Int := [127, 126, 125, 122, 117, 112, 106, 98, 90, 81, 71, 60, 49, 37, 25, 12, 0]
def tab : List (Int × Int) :=
  let q := (List.range 16).map fun j => (wv.getD j 0, wv.getD (16 - j) 0)
  q ++ q.map (fun p => (-p.2, p.1)) ++ q.map (fun p => (-p.1, -p.2)) ++ q.map (fun p => (p.2, -p.1))
/-- The entry with an index. -/
def ti (k : Int) : Int := (tab.getD (k % 64).toNat (0, 0)).1
def tq (k : Int) : Int := (tab.getD (k % 64).toNat (0, 0)).2
def mi (k : Int) : Int := ti k + ti (k + 1)
def mq (k : Int) : Int := tq k + tq (k + 1)
def IsSec (k x y : Int) : Prop := 0 ≤ k ∧ k < 64 ∧ 0 ≤ mi (k - 1) * y - mq (k - 1) * x ∧ 0 < x * mq k - y * mi k
theorem cases64 {P : Int → Prop} (k : Int) (h0 : 0 ≤ k) (h1 : k < 64) (h : ∀ j : Fin 64, P (j.val : Int)) : P k := by
  have := h ⟨k.toNat, by omega⟩
  simpa [Int.toNat_of_nonneg h0] using this
def bnd : List (Int × Int) := [(253, 12), (251, 37), (247, 62), (239, 86), (229, 109), (218, 131), (204, 152), (188, 171), (171, 188), (152, 204), (131, 218), (109, 229), (86, 239), (62, 247), (37, 251), (12, 253), (-12, 253), (-37, 251), (-62, 247), (-86, 239), (-109, 229), (-131, 218), (-152, 204), (-171, 188), (-188, 171), (-204, 152), (-218, 131), (-229, 109), (-239, 86), (-247, 62), (-251, 37), (-253, 12), (-253, -12), (-251, -37), (-247, -62), (-239, -86), (-229, -109), (-218, -131), (-204, -152), (-188, -171), (-171, -188), (-152, -204), (-131, -218), (-109, -229), (-86, -239), (-62, -247), (-37, -251), (-12, -253), (12, -253), (37, -251), (62, -247), (86, -239), (109, -229), (131, -218), (152, -204), (171, -188), (188, -171), (204, -152), (218, -131), (229, -109), (239, -86), (247, -62), (251, -37), (253, -12)]

/-- The boundaries, written out. -/
theorem m_lit (k : Int) (h0 : 0 ≤ k) (h1 : k < 64) : (mi k, mq k) = (bnd.getD k.toNat (0, 0)) := by
  refine cases64 (P := fun k => (mi k, mq k) = (bnd.getD k.toNat (0, 0))) k h0 h1 ?_
  decide
/-- The cross product of a boundary and a number. -/
def d (k x y : Int) : Int := mi k * y - mq k * x
/-- In which quarter a number lies. -/
def Quarter (q x y : Int) : Prop := (q = 0 ∧ 0 < x ∧ 0 ≤ y) ∨ (q = 1 ∧ x ≤ 0 ∧ 0 < y) ∨ (q = 2 ∧ x < 0 ∧ y ≤ 0) ∨ (q = 3 ∧ 0 ≤ x ∧ y < 0)
theorem quarter_ex (x y : Int) (h : x ≠ 0 ∨ y ≠ 0) : ∃ q, Quarter q x y := by
  unfold Quarter
  by_cases a : 0 < x ∧ 0 ≤ y
  · exact ⟨0, by omega⟩
  by_cases b : x ≤ 0 ∧ 0 < y
  · exact ⟨1, by omega⟩
  by_cases c : x < 0 ∧ y ≤ 0
  · exact ⟨2, by omega⟩
  · exact ⟨3, by omega⟩
theorem at0 (x y : Int) : (d 0 x y < 0 → 0 ≤ d (-1) x y → (Quarter 0 x y ∨ Quarter 3 x y)) ∧ (Quarter 0 x y → d 0 x y < 0 → d 1 x y < 0) := by
  show ((253 * y - 12 * x : Int) < 0 → 0 ≤ (253 * y - (-12) * x : Int) → _) ∧ (_ → (253 * y - 12 * x : Int) < 0 → (251 * y - 37 * x : Int) < 0)
  unfold Quarter; omega
theorem at1 (x y : Int) : (d 1 x y < 0 → 0 ≤ d 0 x y → (Quarter 0 x y ∨ Quarter 0 x y)) ∧ (Quarter 0 x y → d 1 x y < 0 → d 2 x y < 0) := by
  show ((251 * y - 37 * x : Int) < 0 → 0 ≤ (253 * y - 12 * x : Int) → _) ∧ (_ → (251 * y - 37 * x : Int) < 0 → (247 * y - 62 * x : Int) < 0)
  unfold Quarter; omega
theorem at2 (x y : Int) : (d 2 x y < 0 → 0 ≤ d 1 x y → (Quarter 0 x y ∨ Quarter 0 x y)) ∧ (Quarter 0 x y → d 2 x y < 0 → d 3 x y < 0) := by
  show ((247 * y - 62 * x : Int) < 0 → 0 ≤ (251 * y - 37 * x : Int) → _) ∧ (_ → (247 * y - 62 * x : Int) < 0 → (239 * y - 86 * x : Int) < 0)
  unfold Quarter; omega
theorem at3 (x y : Int) : (d 3 x y < 0 → 0 ≤ d 2 x y → (Quarter 0 x y ∨ Quarter 0 x y)) ∧ (Quarter 0 x y → d 3 x y < 0 → d 4 x y < 0) := by
  show ((239 * y - 86 * x : Int) < 0 → 0 ≤ (247 * y - 62 * x : Int) → _) ∧ (_ → (239 * y - 86 * x : Int) < 0 → (229 * y - 109 * x : Int) < 0)
  unfold Quarter; omega
theorem at4 (x y : Int) : (d 4 x y < 0 → 0 ≤ d 3 x y → (Quarter 0 x y ∨ Quarter 0 x y)) ∧ (Quarter 0 x y → d 4 x y < 0 → d 5 x y < 0) := by
  show ((229 * y - 109 * x : Int) < 0 → 0 ≤ (239 * y - 86 * x : Int) → _) ∧ (_ → (229 * y - 109 * x : Int) < 0 → (218 * y - 131 * x : Int) < 0)
  unfold Quarter; omega
theorem at5 (x y : Int) : (d 5 x y < 0 → 0 ≤ d 4 x y → (Quarter 0 x y ∨ Quarter 0 x y)) ∧ (Quarter 0 x y → d 5 x y < 0 → d 6 x y < 0) := by
  show ((218 * y - 131 * x : Int) < 0 → 0 ≤ (229 * y - 109 * x : Int) → _) ∧ (_ → (218 * y - 131 * x : Int) < 0 → (204 * y - 152 * x : Int) < 0)
  unfold Quarter; omega
theorem at6 (x y : Int) : (d 6 x y < 0 → 0 ≤ d 5 x y → (Quarter 0 x y ∨ Quarter 0 x y)) ∧ (Quarter 0 x y → d 6 x y < 0 → d 7 x y < 0) := by
  show ((204 * y - 152 * x : Int) < 0 → 0 ≤ (218 * y - 131 * x : Int) → _) ∧ (_ → (204 * y - 152 * x : Int) < 0 → (188 * y - 171 * x : Int) < 0)
  unfold Quarter; omega
theorem at7 (x y : Int) : (d 7 x y < 0 → 0 ≤ d 6 x y → (Quarter 0 x y ∨ Quarter 0 x y)) ∧ (Quarter 0 x y → d 7 x y < 0 → d 8 x y < 0) := by
  show ((188 * y - 171 * x : Int) < 0 → 0 ≤ (204 * y - 152 * x : Int) → _) ∧ (_ → (188 * y - 171 * x : Int) < 0 → (171 * y - 188 * x : Int) < 0)
  unfold Quarter; omega
theorem at8 (x y : Int) : (d 8 x y < 0 → 0 ≤ d 7 x y → (Quarter 0 x y ∨ Quarter 0 x y)) ∧ (Quarter 0 x y → d 8 x y < 0 → d 9 x y < 0) := by
  show ((171 * y - 188 * x : Int) < 0 → 0 ≤ (188 * y - 171 * x : Int) → _) ∧ (_ → (171 * y - 188 * x : Int) < 0 → (152 * y - 204 * x : Int) < 0)
  unfold Quarter; omega
theorem at9 (x y : Int) : (d 9 x y < 0 → 0 ≤ d 8 x y → (Quarter 0 x y ∨ Quarter 0 x y)) ∧ (Quarter 0 x y → d 9 x y < 0 → d 10 x y < 0) := by
  show ((152 * y - 204 * x : Int) < 0 → 0 ≤ (171 * y - 188 * x : Int) → _) ∧ (_ → (152 * y - 204 * x : Int) < 0 → (131 * y - 218 * x : Int) < 0)
  unfold Quarter; omega
theorem at10 (x y : Int) : (d 10 x y < 0 → 0 ≤ d 9 x y → (Quarter 0 x y ∨ Quarter 0 x y)) ∧ (Quarter 0 x y → d 10 x y < 0 → d 11 x y < 0) := by
  show ((131 * y - 218 * x : Int) < 0 → 0 ≤ (152 * y - 204 * x : Int) → _) ∧ (_ → (131 * y - 218 * x : Int) < 0 → (109 * y - 229 * x : Int) < 0)
  unfold Quarter; omega
theorem at11 (x y : Int) : (d 11 x y < 0 → 0 ≤ d 10 x y → (Quarter 0 x y ∨ Quarter 0 x y)) ∧ (Quarter 0 x y → d 11 x y < 0 → d 12 x y < 0) := by
  show ((109 * y - 229 * x : Int) < 0 → 0 ≤ (131 * y - 218 * x : Int) → _) ∧ (_ → (109 * y - 229 * x : Int) < 0 → (86 * y - 239 * x : Int) < 0)
  unfold Quarter; omega
theorem at12 (x y : Int) : (d 12 x y < 0 → 0 ≤ d 11 x y → (Quarter 0 x y ∨ Quarter 0 x y)) ∧ (Quarter 0 x y → d 12 x y < 0 → d 13 x y < 0) := by
  show ((86 * y - 239 * x : Int) < 0 → 0 ≤ (109 * y - 229 * x : Int) → _) ∧ (_ → (86 * y - 239 * x : Int) < 0 → (62 * y - 247 * x : Int) < 0)
  unfold Quarter; omega
theorem at13 (x y : Int) : (d 13 x y < 0 → 0 ≤ d 12 x y → (Quarter 0 x y ∨ Quarter 0 x y)) ∧ (Quarter 0 x y → d 13 x y < 0 → d 14 x y < 0) := by
  show ((62 * y - 247 * x : Int) < 0 → 0 ≤ (86 * y - 239 * x : Int) → _) ∧ (_ → (62 * y - 247 * x : Int) < 0 → (37 * y - 251 * x : Int) < 0)
  unfold Quarter; omega
theorem at14 (x y : Int) : (d 14 x y < 0 → 0 ≤ d 13 x y → (Quarter 0 x y ∨ Quarter 0 x y)) ∧ (Quarter 0 x y → d 14 x y < 0 → d 15 x y < 0) := by
  show ((37 * y - 251 * x : Int) < 0 → 0 ≤ (62 * y - 247 * x : Int) → _) ∧ (_ → (37 * y - 251 * x : Int) < 0 → (12 * y - 253 * x : Int) < 0)
  unfold Quarter; omega
theorem at15 (x y : Int) : (d 15 x y < 0 → 0 ≤ d 14 x y → (Quarter 0 x y ∨ Quarter 0 x y)) ∧ (Quarter 0 x y → d 15 x y < 0 → d 16 x y < 0) := by
  show ((12 * y - 253 * x : Int) < 0 → 0 ≤ (37 * y - 251 * x : Int) → _) ∧ (_ → (12 * y - 253 * x : Int) < 0 → (-12 * y - 253 * x : Int) < 0)
  unfold Quarter; omega
theorem at16 (x y : Int) : (d 16 x y < 0 → 0 ≤ d 15 x y → (Quarter 1 x y ∨ Quarter 0 x y)) ∧ (Quarter 1 x y → d 16 x y < 0 → d 17 x y < 0) := by
  show ((-12 * y - 253 * x : Int) < 0 → 0 ≤ (12 * y - 253 * x : Int) → _) ∧ (_ → (-12 * y - 253 * x : Int) < 0 → (-37 * y - 251 * x : Int) < 0)
  unfold Quarter; omega
theorem at17 (x y : Int) : (d 17 x y < 0 → 0 ≤ d 16 x y → (Quarter 1 x y ∨ Quarter 1 x y)) ∧ (Quarter 1 x y → d 17 x y < 0 → d 18 x y < 0) := by
  show ((-37 * y - 251 * x : Int) < 0 → 0 ≤ (-12 * y - 253 * x : Int) → _) ∧ (_ → (-37 * y - 251 * x : Int) < 0 → (-62 * y - 247 * x : Int) < 0)
  unfold Quarter; omega
theorem at18 (x y : Int) : (d 18 x y < 0 → 0 ≤ d 17 x y → (Quarter 1 x y ∨ Quarter 1 x y)) ∧ (Quarter 1 x y → d 18 x y < 0 → d 19 x y < 0) := by
  show ((-62 * y - 247 * x : Int) < 0 → 0 ≤ (-37 * y - 251 * x : Int) → _) ∧ (_ → (-62 * y - 247 * x : Int) < 0 → (-86 * y - 239 * x : Int) < 0)
  unfold Quarter; omega
theorem at19 (x y : Int) : (d 19 x y < 0 → 0 ≤ d 18 x y → (Quarter 1 x y ∨ Quarter 1 x y)) ∧ (Quarter 1 x y → d 19 x y < 0 → d 20 x y < 0) := by
  show ((-86 * y - 239 * x : Int) < 0 → 0 ≤ (-62 * y - 247 * x : Int) → _) ∧ (_ → (-86 * y - 239 * x : Int) < 0 → (-109 * y - 229 * x : Int) < 0)
  unfold Quarter; omega
theorem at20 (x y : Int) : (d 20 x y < 0 → 0 ≤ d 19 x y → (Quarter 1 x y ∨ Quarter 1 x y)) ∧ (Quarter 1 x y → d 20 x y < 0 → d 21 x y < 0) := by
  show ((-109 * y - 229 * x : Int) < 0 → 0 ≤ (-86 * y - 239 * x : Int) → _) ∧ (_ → (-109 * y - 229 * x : Int) < 0 → (-131 * y - 218 * x : Int) < 0)
  unfold Quarter; omega
theorem at21 (x y : Int) : (d 21 x y < 0 → 0 ≤ d 20 x y → (Quarter 1 x y ∨ Quarter 1 x y)) ∧ (Quarter 1 x y → d 21 x y < 0 → d 22 x y < 0) := by
  show ((-131 * y - 218 * x : Int) < 0 → 0 ≤ (-109 * y - 229 * x : Int) → _) ∧ (_ → (-131 * y - 218 * x : Int) < 0 → (-152 * y - 204 * x : Int) < 0)
  unfold Quarter; omega
theorem at22 (x y : Int) : (d 22 x y < 0 → 0 ≤ d 21 x y → (Quarter 1 x y ∨ Quarter 1 x y)) ∧ (Quarter 1 x y → d 22 x y < 0 → d 23 x y < 0) := by
  show ((-152 * y - 204 * x : Int) < 0 → 0 ≤ (-131 * y - 218 * x : Int) → _) ∧ (_ → (-152 * y - 204 * x : Int) < 0 → (-171 * y - 188 * x : Int) < 0)
  unfold Quarter; omega
theorem at23 (x y : Int) : (d 23 x y < 0 → 0 ≤ d 22 x y → (Quarter 1 x y ∨ Quarter 1 x y)) ∧ (Quarter 1 x y → d 23 x y < 0 → d 24 x y < 0) := by
  show ((-171 * y - 188 * x : Int) < 0 → 0 ≤ (-152 * y - 204 * x : Int) → _) ∧ (_ → (-171 * y - 188 * x : Int) < 0 → (-188 * y - 171 * x : Int) < 0)
  unfold Quarter; omega
theorem at24 (x y : Int) : (d 24 x y < 0 → 0 ≤ d 23 x y → (Quarter 1 x y ∨ Quarter 1 x y)) ∧ (Quarter 1 x y → d 24 x y < 0 → d 25 x y < 0) := by
  show ((-188 * y - 171 * x : Int) < 0 → 0 ≤ (-171 * y - 188 * x : Int) → _) ∧ (_ → (-188 * y - 171 * x : Int) < 0 → (-204 * y - 152 * x : Int) < 0)
  unfold Quarter; omega
theorem at25 (x y : Int) : (d 25 x y < 0 → 0 ≤ d 24 x y → (Quarter 1 x y ∨ Quarter 1 x y)) ∧ (Quarter 1 x y → d 25 x y < 0 → d 26 x y < 0) := by
  show ((-204 * y - 152 * x : Int) < 0 → 0 ≤ (-188 * y - 171 * x : Int) → _) ∧ (_ → (-204 * y - 152 * x : Int) < 0 → (-218 * y - 131 * x : Int) < 0)
  unfold Quarter; omega
theorem at26 (x y : Int) : (d 26 x y < 0 → 0 ≤ d 25 x y → (Quarter 1 x y ∨ Quarter 1 x y)) ∧ (Quarter 1 x y → d 26 x y < 0 → d 27 x y < 0) := by
  show ((-218 * y - 131 * x : Int) < 0 → 0 ≤ (-204 * y - 152 * x : Int) → _) ∧ (_ → (-218 * y - 131 * x : Int) < 0 → (-229 * y - 109 * x : Int) < 0)
  unfold Quarter; omega
theorem at27 (x y : Int) : (d 27 x y < 0 → 0 ≤ d 26 x y → (Quarter 1 x y ∨ Quarter 1 x y)) ∧ (Quarter 1 x y → d 27 x y < 0 → d 28 x y < 0) := by
  show ((-229 * y - 109 * x : Int) < 0 → 0 ≤ (-218 * y - 131 * x : Int) → _) ∧ (_ → (-229 * y - 109 * x : Int) < 0 → (-239 * y - 86 * x : Int) < 0)
  unfold Quarter; omega
theorem at28 (x y : Int) : (d 28 x y < 0 → 0 ≤ d 27 x y → (Quarter 1 x y ∨ Quarter 1 x y)) ∧ (Quarter 1 x y → d 28 x y < 0 → d 29 x y < 0) := by
  show ((-239 * y - 86 * x : Int) < 0 → 0 ≤ (-229 * y - 109 * x : Int) → _) ∧ (_ → (-239 * y - 86 * x : Int) < 0 → (-247 * y - 62 * x : Int) < 0)
  unfold Quarter; omega
theorem at29 (x y : Int) : (d 29 x y < 0 → 0 ≤ d 28 x y → (Quarter 1 x y ∨ Quarter 1 x y)) ∧ (Quarter 1 x y → d 29 x y < 0 → d 30 x y < 0) := by
  show ((-247 * y - 62 * x : Int) < 0 → 0 ≤ (-239 * y - 86 * x : Int) → _) ∧ (_ → (-247 * y - 62 * x : Int) < 0 → (-251 * y - 37 * x : Int) < 0)
  unfold Quarter; omega
theorem at30 (x y : Int) : (d 30 x y < 0 → 0 ≤ d 29 x y → (Quarter 1 x y ∨ Quarter 1 x y)) ∧ (Quarter 1 x y → d 30 x y < 0 → d 31 x y < 0) := by
  show ((-251 * y - 37 * x : Int) < 0 → 0 ≤ (-247 * y - 62 * x : Int) → _) ∧ (_ → (-251 * y - 37 * x : Int) < 0 → (-253 * y - 12 * x : Int) < 0)
  unfold Quarter; omega
theorem at31 (x y : Int) : (d 31 x y < 0 → 0 ≤ d 30 x y → (Quarter 1 x y ∨ Quarter 1 x y)) ∧ (Quarter 1 x y → d 31 x y < 0 → d 32 x y < 0) := by
  show ((-253 * y - 12 * x : Int) < 0 → 0 ≤ (-251 * y - 37 * x : Int) → _) ∧ (_ → (-253 * y - 12 * x : Int) < 0 → (-253 * y - (-12) * x : Int) < 0)
  unfold Quarter; omega
theorem at32 (x y : Int) : (d 32 x y < 0 → 0 ≤ d 31 x y → (Quarter 2 x y ∨ Quarter 1 x y)) ∧ (Quarter 2 x y → d 32 x y < 0 → d 33 x y < 0) := by
  show ((-253 * y - (-12) * x : Int) < 0 → 0 ≤ (-253 * y - 12 * x : Int) → _) ∧ (_ → (-253 * y - (-12) * x : Int) < 0 → (-251 * y - (-37) * x : Int) < 0)
  unfold Quarter; omega
theorem at33 (x y : Int) : (d 33 x y < 0 → 0 ≤ d 32 x y → (Quarter 2 x y ∨ Quarter 2 x y)) ∧ (Quarter 2 x y → d 33 x y < 0 → d 34 x y < 0) := by
  show ((-251 * y - (-37) * x : Int) < 0 → 0 ≤ (-253 * y - (-12) * x : Int) → _) ∧ (_ → (-251 * y - (-37) * x : Int) < 0 → (-247 * y - (-62) * x : Int) < 0)
  unfold Quarter; omega
theorem at34 (x y : Int) : (d 34 x y < 0 → 0 ≤ d 33 x y → (Quarter 2 x y ∨ Quarter 2 x y)) ∧ (Quarter 2 x y → d 34 x y < 0 → d 35 x y < 0) := by
  show ((-247 * y - (-62) * x : Int) < 0 → 0 ≤ (-251 * y - (-37) * x : Int) → _) ∧ (_ → (-247 * y - (-62) * x : Int) < 0 → (-239 * y - (-86) * x : Int) < 0)
  unfold Quarter; omega
theorem at35 (x y : Int) : (d 35 x y < 0 → 0 ≤ d 34 x y → (Quarter 2 x y ∨ Quarter 2 x y)) ∧ (Quarter 2 x y → d 35 x y < 0 → d 36 x y < 0) := by
  show ((-239 * y - (-86) * x : Int) < 0 → 0 ≤ (-247 * y - (-62) * x : Int) → _) ∧ (_ → (-239 * y - (-86) * x : Int) < 0 → (-229 * y - (-109) * x : Int) < 0)
  unfold Quarter; omega
theorem at36 (x y : Int) : (d 36 x y < 0 → 0 ≤ d 35 x y → (Quarter 2 x y ∨ Quarter 2 x y)) ∧ (Quarter 2 x y → d 36 x y < 0 → d 37 x y < 0) := by
  show ((-229 * y - (-109) * x : Int) < 0 → 0 ≤ (-239 * y - (-86) * x : Int) → _) ∧ (_ → (-229 * y - (-109) * x : Int) < 0 → (-218 * y - (-131) * x : Int) < 0)
  unfold Quarter; omega
theorem at37 (x y : Int) : (d 37 x y < 0 → 0 ≤ d 36 x y → (Quarter 2 x y ∨ Quarter 2 x y)) ∧ (Quarter 2 x y → d 37 x y < 0 → d 38 x y < 0) := by
  show ((-218 * y - (-131) * x : Int) < 0 → 0 ≤ (-229 * y - (-109) * x : Int) → _) ∧ (_ → (-218 * y - (-131) * x : Int) < 0 → (-204 * y - (-152) * x : Int) < 0)
  unfold Quarter; omega
theorem at38 (x y : Int) : (d 38 x y < 0 → 0 ≤ d 37 x y → (Quarter 2 x y ∨ Quarter 2 x y)) ∧ (Quarter 2 x y → d 38 x y < 0 → d 39 x y < 0) := by
  show ((-204 * y - (-152) * x : Int) < 0 → 0 ≤ (-218 * y - (-131) * x : Int) → _) ∧ (_ → (-204 * y - (-152) * x : Int) < 0 → (-188 * y - (-171) * x : Int) < 0)
  unfold Quarter; omega
theorem at39 (x y : Int) : (d 39 x y < 0 → 0 ≤ d 38 x y → (Quarter 2 x y ∨ Quarter 2 x y)) ∧ (Quarter 2 x y → d 39 x y < 0 → d 40 x y < 0) := by
  show ((-188 * y - (-171) * x : Int) < 0 → 0 ≤ (-204 * y - (-152) * x : Int) → _) ∧ (_ → (-188 * y - (-171) * x : Int) < 0 → (-171 * y - (-188) * x : Int) < 0)
  unfold Quarter; omega
theorem at40 (x y : Int) : (d 40 x y < 0 → 0 ≤ d 39 x y → (Quarter 2 x y ∨ Quarter 2 x y)) ∧ (Quarter 2 x y → d 40 x y < 0 → d 41 x y < 0) := by
  show ((-171 * y - (-188) * x : Int) < 0 → 0 ≤ (-188 * y - (-171) * x : Int) → _) ∧ (_ → (-171 * y - (-188) * x : Int) < 0 → (-152 * y - (-204) * x : Int) < 0)
  unfold Quarter; omega
theorem at41 (x y : Int) : (d 41 x y < 0 → 0 ≤ d 40 x y → (Quarter 2 x y ∨ Quarter 2 x y)) ∧ (Quarter 2 x y → d 41 x y < 0 → d 42 x y < 0) := by
  show ((-152 * y - (-204) * x : Int) < 0 → 0 ≤ (-171 * y - (-188) * x : Int) → _) ∧ (_ → (-152 * y - (-204) * x : Int) < 0 → (-131 * y - (-218) * x : Int) < 0)
  unfold Quarter; omega
theorem at42 (x y : Int) : (d 42 x y < 0 → 0 ≤ d 41 x y → (Quarter 2 x y ∨ Quarter 2 x y)) ∧ (Quarter 2 x y → d 42 x y < 0 → d 43 x y < 0) := by
  show ((-131 * y - (-218) * x : Int) < 0 → 0 ≤ (-152 * y - (-204) * x : Int) → _) ∧ (_ → (-131 * y - (-218) * x : Int) < 0 → (-109 * y - (-229) * x : Int) < 0)
  unfold Quarter; omega
theorem at43 (x y : Int) : (d 43 x y < 0 → 0 ≤ d 42 x y → (Quarter 2 x y ∨ Quarter 2 x y)) ∧ (Quarter 2 x y → d 43 x y < 0 → d 44 x y < 0) := by
  show ((-109 * y - (-229) * x : Int) < 0 → 0 ≤ (-131 * y - (-218) * x : Int) → _) ∧ (_ → (-109 * y - (-229) * x : Int) < 0 → (-86 * y - (-239) * x : Int) < 0)
  unfold Quarter; omega
theorem at44 (x y : Int) : (d 44 x y < 0 → 0 ≤ d 43 x y → (Quarter 2 x y ∨ Quarter 2 x y)) ∧ (Quarter 2 x y → d 44 x y < 0 → d 45 x y < 0) := by
  show ((-86 * y - (-239) * x : Int) < 0 → 0 ≤ (-109 * y - (-229) * x : Int) → _) ∧ (_ → (-86 * y - (-239) * x : Int) < 0 → (-62 * y - (-247) * x : Int) < 0)
  unfold Quarter; omega
theorem at45 (x y : Int) : (d 45 x y < 0 → 0 ≤ d 44 x y → (Quarter 2 x y ∨ Quarter 2 x y)) ∧ (Quarter 2 x y → d 45 x y < 0 → d 46 x y < 0) := by
  show ((-62 * y - (-247) * x : Int) < 0 → 0 ≤ (-86 * y - (-239) * x : Int) → _) ∧ (_ → (-62 * y - (-247) * x : Int) < 0 → (-37 * y - (-251) * x : Int) < 0)
  unfold Quarter; omega
theorem at46 (x y : Int) : (d 46 x y < 0 → 0 ≤ d 45 x y → (Quarter 2 x y ∨ Quarter 2 x y)) ∧ (Quarter 2 x y → d 46 x y < 0 → d 47 x y < 0) := by
  show ((-37 * y - (-251) * x : Int) < 0 → 0 ≤ (-62 * y - (-247) * x : Int) → _) ∧ (_ → (-37 * y - (-251) * x : Int) < 0 → (-12 * y - (-253) * x : Int) < 0)
  unfold Quarter; omega
theorem at47 (x y : Int) : (d 47 x y < 0 → 0 ≤ d 46 x y → (Quarter 2 x y ∨ Quarter 2 x y)) ∧ (Quarter 2 x y → d 47 x y < 0 → d 48 x y < 0) := by
  show ((-12 * y - (-253) * x : Int) < 0 → 0 ≤ (-37 * y - (-251) * x : Int) → _) ∧ (_ → (-12 * y - (-253) * x : Int) < 0 → (12 * y - (-253) * x : Int) < 0)
  unfold Quarter; omega
theorem at48 (x y : Int) : (d 48 x y < 0 → 0 ≤ d 47 x y → (Quarter 3 x y ∨ Quarter 2 x y)) ∧ (Quarter 3 x y → d 48 x y < 0 → d 49 x y < 0) := by
  show ((12 * y - (-253) * x : Int) < 0 → 0 ≤ (-12 * y - (-253) * x : Int) → _) ∧ (_ → (12 * y - (-253) * x : Int) < 0 → (37 * y - (-251) * x : Int) < 0)
  unfold Quarter; omega
theorem at49 (x y : Int) : (d 49 x y < 0 → 0 ≤ d 48 x y → (Quarter 3 x y ∨ Quarter 3 x y)) ∧ (Quarter 3 x y → d 49 x y < 0 → d 50 x y < 0) := by
  show ((37 * y - (-251) * x : Int) < 0 → 0 ≤ (12 * y - (-253) * x : Int) → _) ∧ (_ → (37 * y - (-251) * x : Int) < 0 → (62 * y - (-247) * x : Int) < 0)
  unfold Quarter; omega
theorem at50 (x y : Int) : (d 50 x y < 0 → 0 ≤ d 49 x y → (Quarter 3 x y ∨ Quarter 3 x y)) ∧ (Quarter 3 x y → d 50 x y < 0 → d 51 x y < 0) := by
  show ((62 * y - (-247) * x : Int) < 0 → 0 ≤ (37 * y - (-251) * x : Int) → _) ∧ (_ → (62 * y - (-247) * x : Int) < 0 → (86 * y - (-239) * x : Int) < 0)
  unfold Quarter; omega
theorem at51 (x y : Int) : (d 51 x y < 0 → 0 ≤ d 50 x y → (Quarter 3 x y ∨ Quarter 3 x y)) ∧ (Quarter 3 x y → d 51 x y < 0 → d 52 x y < 0) := by
  show ((86 * y - (-239) * x : Int) < 0 → 0 ≤ (62 * y - (-247) * x : Int) → _) ∧ (_ → (86 * y - (-239) * x : Int) < 0 → (109 * y - (-229) * x : Int) < 0)
  unfold Quarter; omega
theorem at52 (x y : Int) : (d 52 x y < 0 → 0 ≤ d 51 x y → (Quarter 3 x y ∨ Quarter 3 x y)) ∧ (Quarter 3 x y → d 52 x y < 0 → d 53 x y < 0) := by
  show ((109 * y - (-229) * x : Int) < 0 → 0 ≤ (86 * y - (-239) * x : Int) → _) ∧ (_ → (109 * y - (-229) * x : Int) < 0 → (131 * y - (-218) * x : Int) < 0)
  unfold Quarter; omega
theorem at53 (x y : Int) : (d 53 x y < 0 → 0 ≤ d 52 x y → (Quarter 3 x y ∨ Quarter 3 x y)) ∧ (Quarter 3 x y → d 53 x y < 0 → d 54 x y < 0) := by
  show ((131 * y - (-218) * x : Int) < 0 → 0 ≤ (109 * y - (-229) * x : Int) → _) ∧ (_ → (131 * y - (-218) * x : Int) < 0 → (152 * y - (-204) * x : Int) < 0)
  unfold Quarter; omega
theorem at54 (x y : Int) : (d 54 x y < 0 → 0 ≤ d 53 x y → (Quarter 3 x y ∨ Quarter 3 x y)) ∧ (Quarter 3 x y → d 54 x y < 0 → d 55 x y < 0) := by
  show ((152 * y - (-204) * x : Int) < 0 → 0 ≤ (131 * y - (-218) * x : Int) → _) ∧ (_ → (152 * y - (-204) * x : Int) < 0 → (171 * y - (-188) * x : Int) < 0)
  unfold Quarter; omega
theorem at55 (x y : Int) : (d 55 x y < 0 → 0 ≤ d 54 x y → (Quarter 3 x y ∨ Quarter 3 x y)) ∧ (Quarter 3 x y → d 55 x y < 0 → d 56 x y < 0) := by
  show ((171 * y - (-188) * x : Int) < 0 → 0 ≤ (152 * y - (-204) * x : Int) → _) ∧ (_ → (171 * y - (-188) * x : Int) < 0 → (188 * y - (-171) * x : Int) < 0)
  unfold Quarter; omega
theorem at56 (x y : Int) : (d 56 x y < 0 → 0 ≤ d 55 x y → (Quarter 3 x y ∨ Quarter 3 x y)) ∧ (Quarter 3 x y → d 56 x y < 0 → d 57 x y < 0) := by
  show ((188 * y - (-171) * x : Int) < 0 → 0 ≤ (171 * y - (-188) * x : Int) → _) ∧ (_ → (188 * y - (-171) * x : Int) < 0 → (204 * y - (-152) * x : Int) < 0)
  unfold Quarter; omega
theorem at57 (x y : Int) : (d 57 x y < 0 → 0 ≤ d 56 x y → (Quarter 3 x y ∨ Quarter 3 x y)) ∧ (Quarter 3 x y → d 57 x y < 0 → d 58 x y < 0) := by
  show ((204 * y - (-152) * x : Int) < 0 → 0 ≤ (188 * y - (-171) * x : Int) → _) ∧ (_ → (204 * y - (-152) * x : Int) < 0 → (218 * y - (-131) * x : Int) < 0)
  unfold Quarter; omega
theorem at58 (x y : Int) : (d 58 x y < 0 → 0 ≤ d 57 x y → (Quarter 3 x y ∨ Quarter 3 x y)) ∧ (Quarter 3 x y → d 58 x y < 0 → d 59 x y < 0) := by
  show ((218 * y - (-131) * x : Int) < 0 → 0 ≤ (204 * y - (-152) * x : Int) → _) ∧ (_ → (218 * y - (-131) * x : Int) < 0 → (229 * y - (-109) * x : Int) < 0)
  unfold Quarter; omega
theorem at59 (x y : Int) : (d 59 x y < 0 → 0 ≤ d 58 x y → (Quarter 3 x y ∨ Quarter 3 x y)) ∧ (Quarter 3 x y → d 59 x y < 0 → d 60 x y < 0) := by
  show ((229 * y - (-109) * x : Int) < 0 → 0 ≤ (218 * y - (-131) * x : Int) → _) ∧ (_ → (229 * y - (-109) * x : Int) < 0 → (239 * y - (-86) * x : Int) < 0)
  unfold Quarter; omega
theorem at60 (x y : Int) : (d 60 x y < 0 → 0 ≤ d 59 x y → (Quarter 3 x y ∨ Quarter 3 x y)) ∧ (Quarter 3 x y → d 60 x y < 0 → d 61 x y < 0) := by
  show ((239 * y - (-86) * x : Int) < 0 → 0 ≤ (229 * y - (-109) * x : Int) → _) ∧ (_ → (239 * y - (-86) * x : Int) < 0 → (247 * y - (-62) * x : Int) < 0)
  unfold Quarter; omega
theorem at61 (x y : Int) : (d 61 x y < 0 → 0 ≤ d 60 x y → (Quarter 3 x y ∨ Quarter 3 x y)) ∧ (Quarter 3 x y → d 61 x y < 0 → d 62 x y < 0) := by
  show ((247 * y - (-62) * x : Int) < 0 → 0 ≤ (239 * y - (-86) * x : Int) → _) ∧ (_ → (247 * y - (-62) * x : Int) < 0 → (251 * y - (-37) * x : Int) < 0)
  unfold Quarter; omega
theorem at62 (x y : Int) : (d 62 x y < 0 → 0 ≤ d 61 x y → (Quarter 3 x y ∨ Quarter 3 x y)) ∧ (Quarter 3 x y → d 62 x y < 0 → d 63 x y < 0) := by
  show ((251 * y - (-37) * x : Int) < 0 → 0 ≤ (247 * y - (-62) * x : Int) → _) ∧ (_ → (251 * y - (-37) * x : Int) < 0 → (253 * y - (-12) * x : Int) < 0)
  unfold Quarter; omega
theorem at63 (x y : Int) : (d 63 x y < 0 → 0 ≤ d 62 x y → (Quarter 3 x y ∨ Quarter 3 x y)) ∧ (Quarter 3 x y → d 63 x y < 0 → d 64 x y < 0) := by
  show ((253 * y - (-12) * x : Int) < 0 → 0 ≤ (251 * y - (-37) * x : Int) → _) ∧ (_ → (253 * y - (-12) * x : Int) < 0 → (253 * y - 12 * x : Int) < 0)
  unfold Quarter; omega

theorem cases64' {P : Int → Prop} (p0 : P 0) (p1 : P 1) (p2 : P 2) (p3 : P 3) (p4 : P 4) (p5 : P 5) (p6 : P 6) (p7 : P 7) (p8 : P 8) (p9 : P 9) (p10 : P 10) (p11 : P 11) (p12 : P 12) (p13 : P 13) (p14 : P 14) (p15 : P 15) (p16 : P 16) (p17 : P 17) (p18 : P 18) (p19 : P 19) (p20 : P 20) (p21 : P 21) (p22 : P 22) (p23 : P 23) (p24 : P 24) (p25 : P 25) (p26 : P 26) (p27 : P 27) (p28 : P 28) (p29 : P 29) (p30 : P 30) (p31 : P 31) (p32 : P 32) (p33 : P 33) (p34 : P 34) (p35 : P 35) (p36 : P 36) (p37 : P 37) (p38 : P 38) (p39 : P 39) (p40 : P 40) (p41 : P 41) (p42 : P 42) (p43 : P 43) (p44 : P 44) (p45 : P 45) (p46 : P 46) (p47 : P 47) (p48 : P 48) (p49 : P 49) (p50 : P 50) (p51 : P 51) (p52 : P 52) (p53 : P 53) (p54 : P 54) (p55 : P 55) (p56 : P 56) (p57 : P 57) (p58 : P 58) (p59 : P 59) (p60 : P 60) (p61 : P 61) (p62 : P 62) (p63 : P 63) (k : Int) (h0 : 0 ≤ k) (h1 : k < 64) : P k :=
  cases64 k h0 h1 (fun j => match j with
    | ⟨0, _⟩ => p0
    | ⟨1, _⟩ => p1
    | ⟨2, _⟩ => p2
    | ⟨3, _⟩ => p3
    | ⟨4, _⟩ => p4
    | ⟨5, _⟩ => p5
    | ⟨6, _⟩ => p6
    | ⟨7, _⟩ => p7
    | ⟨8, _⟩ => p8
    | ⟨9, _⟩ => p9
    | ⟨10, _⟩ => p10
    | ⟨11, _⟩ => p11
    | ⟨12, _⟩ => p12
    | ⟨13, _⟩ => p13
    | ⟨14, _⟩ => p14
    | ⟨15, _⟩ => p15
    | ⟨16, _⟩ => p16
    | ⟨17, _⟩ => p17
    | ⟨18, _⟩ => p18
    | ⟨19, _⟩ => p19
    | ⟨20, _⟩ => p20
    | ⟨21, _⟩ => p21
    | ⟨22, _⟩ => p22
    | ⟨23, _⟩ => p23
    | ⟨24, _⟩ => p24
    | ⟨25, _⟩ => p25
    | ⟨26, _⟩ => p26
    | ⟨27, _⟩ => p27
    | ⟨28, _⟩ => p28
    | ⟨29, _⟩ => p29
    | ⟨30, _⟩ => p30
    | ⟨31, _⟩ => p31
    | ⟨32, _⟩ => p32
    | ⟨33, _⟩ => p33
    | ⟨34, _⟩ => p34
    | ⟨35, _⟩ => p35
    | ⟨36, _⟩ => p36
    | ⟨37, _⟩ => p37
    | ⟨38, _⟩ => p38
    | ⟨39, _⟩ => p39
    | ⟨40, _⟩ => p40
    | ⟨41, _⟩ => p41
    | ⟨42, _⟩ => p42
    | ⟨43, _⟩ => p43
    | ⟨44, _⟩ => p44
    | ⟨45, _⟩ => p45
    | ⟨46, _⟩ => p46
    | ⟨47, _⟩ => p47
    | ⟨48, _⟩ => p48
    | ⟨49, _⟩ => p49
    | ⟨50, _⟩ => p50
    | ⟨51, _⟩ => p51
    | ⟨52, _⟩ => p52
    | ⟨53, _⟩ => p53
    | ⟨54, _⟩ => p54
    | ⟨55, _⟩ => p55
    | ⟨56, _⟩ => p56
    | ⟨57, _⟩ => p57
    | ⟨58, _⟩ => p58
    | ⟨59, _⟩ => p59
    | ⟨60, _⟩ => p60
    | ⟨61, _⟩ => p61
    | ⟨62, _⟩ => p62
    | ⟨63, _⟩ => p63
    | ⟨j + 64, h⟩ => absurd h (by omega))
theorem le16 (k x y : Int) (h0 : 0 ≤ k) (h1 : k < 64) (hq : Quarter 0 x y) (ha : 0 ≤ d (k - 1) x y) (hb : d k x y < 0) : k ≤ 16 := by
  refine cases64' (P := fun k => 0 ≤ d (k - 1) x y → d k x y < 0 → k ≤ 16) (fun _ _ => by decide) (fun _ _ => by decide) (fun _ _ => by decide) (fun _ _ => by decide) (fun _ _ => by decide) (fun _ _ => by decide) (fun _ _ => by decide) (fun _ _ => by decide) (fun _ _ => by decide) (fun _ _ => by decide) (fun _ _ => by decide) (fun _ _ => by decide) (fun _ _ => by decide) (fun _ _ => by decide) (fun _ _ => by decide) (fun _ _ => by decide) (fun _ _ => by decide) (fun ha hb => absurd ((at17 x y).1 hb ha) (by unfold Quarter at *; omega)) (fun ha hb => absurd ((at18 x y).1 hb ha) (by unfold Quarter at *; omega)) (fun ha hb => absurd ((at19 x y).1 hb ha) (by unfold Quarter at *; omega)) (fun ha hb => absurd ((at20 x y).1 hb ha) (by unfold Quarter at *; omega)) (fun ha hb => absurd ((at21 x y).1 hb ha) (by unfold Quarter at *; omega)) (fun ha hb => absurd ((at22 x y).1 hb ha) (by unfold Quarter at *; omega)) (fun ha hb => absurd ((at23 x y).1 hb ha) (by unfold Quarter at *; omega)) (fun ha hb => absurd ((at24 x y).1 hb ha) (by unfold Quarter at *; omega)) (fun ha hb => absurd ((at25 x y).1 hb ha) (by unfold Quarter at *; omega)) (fun ha hb => absurd ((at26 x y).1 hb ha) (by unfold Quarter at *; omega)) (fun ha hb => absurd ((at27 x y).1 hb ha) (by unfold Quarter at *; omega)) (fun ha hb => absurd ((at28 x y).1 hb ha) (by unfold Quarter at *; omega)) (fun ha hb => absurd ((at29 x y).1 hb ha) (by unfold Quarter at *; omega)) (fun ha hb => absurd ((at30 x y).1 hb ha) (by unfold Quarter at *; omega)) (fun ha hb => absurd ((at31 x y).1 hb ha) (by unfold Quarter at *; omega)) (fun ha hb => absurd ((at32 x y).1 hb ha) (by unfold Quarter at *; omega)) (fun ha hb => absurd ((at33 x y).1 hb ha) (by unfold Quarter at *; omega)) (fun ha hb => absurd ((at34 x y).1 hb ha) (by unfold Quarter at *; omega)) (fun ha hb => absurd ((at35 x y).1 hb ha) (by unfold Quarter at *; omega)) (fun ha hb => absurd ((at36 x y).1 hb ha) (by unfold Quarter at *; omega)) (fun ha hb => absurd ((at37 x y).1 hb ha) (by unfold Quarter at *; omega)) (fun ha hb => absurd ((at38 x y).1 hb ha) (by unfold Quarter at *; omega)) (fun ha hb => absurd ((at39 x y).1 hb ha) (by unfold Quarter at *; omega)) (fun ha hb => absurd ((at40 x y).1 hb ha) (by unfold Quarter at *; omega)) (fun ha hb => absurd ((at41 x y).1 hb ha) (by unfold Quarter at *; omega)) (fun ha hb => absurd ((at42 x y).1 hb ha) (by unfold Quarter at *; omega)) (fun ha hb => absurd ((at43 x y).1 hb ha) (by unfold Quarter at *; omega)) (fun ha hb => absurd ((at44 x y).1 hb ha) (by unfold Quarter at *; omega)) (fun ha hb => absurd ((at45 x y).1 hb ha) (by unfold Quarter at *; omega)) (fun ha hb => absurd ((at46 x y).1 hb ha) (by unfold Quarter at *; omega)) (fun ha hb => absurd ((at47 x y).1 hb ha) (by unfold Quarter at *; omega)) (fun ha hb => absurd ((at48 x y).1 hb ha) (by unfold Quarter at *; omega)) (fun ha hb => absurd ((at49 x y).1 hb ha) (by unfold Quarter at *; omega)) (fun ha hb => absurd ((at50 x y).1 hb ha) (by unfold Quarter at *; omega)) (fun ha hb => absurd ((at51 x y).1 hb ha) (by unfold Quarter at *; omega)) (fun ha hb => absurd ((at52 x y).1 hb ha) (by unfold Quarter at *; omega)) (fun ha hb => absurd ((at53 x y).1 hb ha) (by unfold Quarter at *; omega)) (fun ha hb => absurd ((at54 x y).1 hb ha) (by unfold Quarter at *; omega)) (fun ha hb => absurd ((at55 x y).1 hb ha) (by unfold Quarter at *; omega)) (fun ha hb => absurd ((at56 x y).1 hb ha) (by unfold Quarter at *; omega)) (fun ha hb => absurd ((at57 x y).1 hb ha) (by unfold Quarter at *; omega)) (fun ha hb => absurd ((at58 x y).1 hb ha) (by unfold Quarter at *; omega)) (fun ha hb => absurd ((at59 x y).1 hb ha) (by unfold Quarter at *; omega)) (fun ha hb => absurd ((at60 x y).1 hb ha) (by unfold Quarter at *; omega)) (fun ha hb => absurd ((at61 x y).1 hb ha) (by unfold Quarter at *; omega)) (fun ha hb => absurd ((at62 x y).1 hb ha) (by unfold Quarter at *; omega)) (fun ha hb => absurd ((at63 x y).1 hb ha) (by unfold Quarter at *; omega)) k h0 h1 ha hb
theorem next (k x y : Int) (h0 : 0 ≤ k) (h1 : k < 16) (hq : Quarter 0 x y) (hb : d k x y < 0) : d (k + 1) x y < 0 := by
  refine cases64' (P := fun k => k < 16 → d k x y < 0 → d (k + 1) x y < 0) (fun _ hb => (at0 x y).2 hq hb) (fun _ hb => (at1 x y).2 hq hb) (fun _ hb => (at2 x y).2 hq hb) (fun _ hb => (at3 x y).2 hq hb) (fun _ hb => (at4 x y).2 hq hb) (fun _ hb => (at5 x y).2 hq hb) (fun _ hb => (at6 x y).2 hq hb) (fun _ hb => (at7 x y).2 hq hb) (fun _ hb => (at8 x y).2 hq hb) (fun _ hb => (at9 x y).2 hq hb) (fun _ hb => (at10 x y).2 hq hb) (fun _ hb => (at11 x y).2 hq hb) (fun _ hb => (at12 x y).2 hq hb) (fun _ hb => (at13 x y).2 hq hb) (fun _ hb => (at14 x y).2 hq hb) (fun _ hb => (at15 x y).2 hq hb) (fun h _ => absurd h (by decide)) (fun h _ => absurd h (by decide)) (fun h _ => absurd h (by decide)) (fun h _ => absurd h (by decide)) (fun h _ => absurd h (by decide)) (fun h _ => absurd h (by decide)) (fun h _ => absurd h (by decide)) (fun h _ => absurd h (by decide)) (fun h _ => absurd h (by decide)) (fun h _ => absurd h (by decide)) (fun h _ => absurd h (by decide)) (fun h _ => absurd h (by decide)) (fun h _ => absurd h (by decide)) (fun h _ => absurd h (by decide)) (fun h _ => absurd h (by decide)) (fun h _ => absurd h (by decide)) (fun h _ => absurd h (by decide)) (fun h _ => absurd h (by decide)) (fun h _ => absurd h (by decide)) (fun h _ => absurd h (by decide)) (fun h _ => absurd h (by decide)) (fun h _ => absurd h (by decide)) (fun h _ => absurd h (by decide)) (fun h _ => absurd h (by decide)) (fun h _ => absurd h (by decide)) (fun h _ => absurd h (by decide)) (fun h _ => absurd h (by decide)) (fun h _ => absurd h (by decide)) (fun h _ => absurd h (by decide)) (fun h _ => absurd h (by decide)) (fun h _ => absurd h (by decide)) (fun h _ => absurd h (by decide)) (fun h _ => absurd h (by decide)) (fun h _ => absurd h (by decide)) (fun h _ => absurd h (by decide)) (fun h _ => absurd h (by decide)) (fun h _ => absurd h (by decide)) (fun h _ => absurd h (by decide)) (fun h _ => absurd h (by decide)) (fun h _ => absurd h (by decide)) (fun h _ => absurd h (by decide)) (fun h _ => absurd h (by decide)) (fun h _ => absurd h (by decide)) (fun h _ => absurd h (by decide)) (fun h _ => absurd h (by decide)) (fun h _ => absurd h (by decide)) (fun h _ => absurd h (by decide)) (fun h _ => absurd h (by decide)) k h0 (by omega) h1 hb
theorem nexts (n : Nat) (k x y : Int) (h0 : 0 ≤ k) (h1 : k + n ≤ 16) (hq : Quarter 0 x y) (hb : d k x y < 0) : d (k + n) x y < 0 := by
  induction n with
  | zero => simpa using hb
  | succ n ih =>
    have := next (k + n) x y (by omega) (by omega) hq (ih (by omega))
    rwa [show k + (n : Int) + 1 = k + ((n + 1 : Nat) : Int) from by omega] at this
theorem isSec_d {k x y : Int} : IsSec k x y ↔ 0 ≤ k ∧ k < 64 ∧ 0 ≤ d (k - 1) x y ∧ d k x y < 0 := by
  unfold IsSec d
  have e : x * mq k - y * mi k = - (mi k * y - mq k * x) := by
    rw [Int.mul_comm x, Int.mul_comm y]; omega
  rw [e]; omega
theorem uniq0 (k k' x y : Int) (hq : Quarter 0 x y) (h : IsSec k x y) (h' : IsSec k' x y) (hlt : k < k') : False := by
  rw [isSec_d] at h h'
  have l := le16 k x y h.1 h.2.1 hq h.2.2.1 h.2.2.2
  have l' := le16 k' x y h'.1 h'.2.1 hq h'.2.2.1 h'.2.2.2
  have := nexts (k' - 1 - k).toNat k x y h.1 (by omega) hq h.2.2.2
  rw [show k + ((k' - 1 - k).toNat : Int) = k' - 1 from by omega] at this
  omega
theorem mi_mod (k : Int) : mi (k % 64) = mi k ∧ mq (k % 64) = mq k := by
  unfold mi mq ti tq
  rw [show k % 64 % 64 = k % 64 from by omega, show (k % 64 + 1) % 64 = (k + 1) % 64 from by omega]
  exact ⟨rfl, rfl⟩
theorem m_rot (k : Int) : mi (k + 16) = - mq k ∧ mq (k + 16) = mi k := by
  rw [← (mi_mod (k + 16)).1, ← (mi_mod (k + 16)).2, ← (mi_mod k).1, ← (mi_mod k).2]
  rw [show (k + 16) % 64 = (k % 64 + 16) % 64 from by omega]
  have h := cases64 (P := fun k => mi ((k + 16) % 64) = - mq k ∧ mq ((k + 16) % 64) = mi k) (k % 64) (by omega) (by omega) (by decide)
  exact h
theorem d_mod (k x y : Int) : d (k % 64) x y = d k x y := by unfold d; rw [(mi_mod k).1, (mi_mod k).2]
theorem d_rot (k x y : Int) : d (k + 16) (-y) x = d k x y := by
  unfold d; rw [(m_rot k).1, (m_rot k).2, Int.neg_mul, Int.mul_neg]; omega
theorem isSec_rot {k x y : Int} (h : IsSec k x y) : IsSec ((k + 16) % 64) (-y) x := by
  rw [isSec_d] at *
  refine ⟨by omega, by omega, ?_, ?_⟩
  · rw [← d_mod, show ((k + 16) % 64 - 1) % 64 = (k - 1 + 16) % 64 from by omega, d_mod, d_rot]; exact h.2.2.1
  · rw [d_mod, d_rot]; exact h.2.2.2
theorem quarter_rot {q x y : Int} (h : Quarter q x y) : Quarter ((q + 1) % 4) (-y) x := by unfold Quarter at *; omega
theorem uniqN (n : Nat) : ∀ (k k' x y : Int), Quarter ((4 - n) % 4) x y → n ≤ 4 → IsSec k x y → IsSec k' x y → k = k' := by
  induction n with
  | zero =>
    intro k k' x y hq _ h h'
    have hq' : Quarter 0 x y := by simpa using hq
    rcases Int.lt_trichotomy k k' with g | g | g
    · exact (uniq0 k k' x y hq' h h' g).elim
    · exact g
    · exact (uniq0 k' k x y hq' h' h g).elim
  | succ n ih =>
    intro k k' x y hq hn h h'
    have r := quarter_rot hq
    have := ih ((k + 16) % 64) ((k' + 16) % 64) (-y) x (by rwa [show (((4 : Int) - ((n + 1 : Nat) : Int)) % 4 + 1) % 4 = (4 - (n : Int)) % 4 from by omega] at r) (by omega) (isSec_rot h) (isSec_rot h')
    have a := h.1; have b := h.2.1; have c := h'.1; have e := h'.2.1
    omega
theorem uniq {k k' x y : Int} (h : IsSec k x y) (h' : IsSec k' x y) : k = k' := by
  have hne : x ≠ 0 ∨ y ≠ 0 := by
    by_cases e : x = 0 ∧ y = 0
    · obtain ⟨rfl, rfl⟩ := e
      have := h.2.2.2; simp at this
    · omega
  obtain ⟨q, hq⟩ := quarter_ex x y hne
  have hq4 : 0 ≤ q ∧ q < 4 := by unfold Quarter at hq; omega
  refine uniqN ((4 - q) % 4).toNat k k' x y ?_ (by omega) h h'
  rwa [show ((4 : Int) - (((4 - q) % 4).toNat : Int)) % 4 = q from by omega]
end Go.Proofs.Ytcaaecmbbbdopaa.Ang
namespace Go.Proofs.Ytcaaecmbbbdopaa.Ang
theorem first_neg (f : Nat → Int) (n : Nat) (hn : f n < 0) : ∃ k, k ≤ n ∧ f k < 0 ∧ ∀ j, j < k → 0 ≤ f j := by
  induction n with
  | zero => exact ⟨0, Nat.le_refl _, hn, fun j h => absurd h (Nat.not_lt_zero _)⟩
  | succ n ih =>
    by_cases h : f n < 0
    · obtain ⟨k, a, b, c⟩ := ih h; exact ⟨k, by omega, b, c⟩
    · by_cases g : ∃ k, k ≤ n ∧ f k < 0 ∧ ∀ j, j < k → 0 ≤ f j
      · obtain ⟨k, a, b, c⟩ := g; exact ⟨k, by omega, b, c⟩
      · refine ⟨n + 1, Nat.le_refl _, hn, ?_⟩
        intro j hj
        induction j using Nat.strongRecOn with
        | ind j ihj =>
          by_cases hf : 0 ≤ f j
          · exact hf
          · exact absurd ⟨j, by omega, by omega, fun i hi => ihj i hi (by omega)⟩ g
/-- The search in the first quarter finds the sector. -/
theorem sec0 (k x y : Int) (h0 : 0 ≤ k) (h1 : k ≤ 16) (hq : Quarter 0 x y) (hlo : ∀ j : Int, 0 ≤ j → j < k → 0 ≤ d j x y) (hhi : k < 16 → d k x y < 0) : IsSec k x y := by
  rw [isSec_d]
  refine ⟨h0, by omega, ?_, ?_⟩
  · by_cases g : k = 0
    · subst g
      show (0 : Int) ≤ 253 * y - (-12) * x
      unfold Quarter at hq; omega
    · exact hlo (k - 1) (by omega) (by omega)
  · by_cases g : k < 16
    · exact hhi g
    · obtain rfl : k = 16 := by omega
      show (-12 : Int) * y - 253 * x < 0
      unfold Quarter at hq; omega
theorem isSec_rotN (n : Nat) : ∀ (k x y : Int) (x' y' : Int), IsSec k x' y' → (n = 0 → x = x' ∧ y = y') → (n = 1 → x = -y' ∧ y = x') → (n = 2 → x = -x' ∧ y = -y') → (n = 3 → x = y' ∧ y = -x') → n < 4 → IsSec ((k + 16 * n) % 64) x y := by
  intro k x y x' y' h e0 e1 e2 e3 hn
  have m0 : IsSec (k % 64) x' y' := by rwa [show k % 64 = k from by have := h.1; have := h.2.1; omega]
  match n, hn with
  | 0, _ => obtain ⟨rfl, rfl⟩ := e0 rfl; simpa using m0
  | 1, _ => obtain ⟨rfl, rfl⟩ := e1 rfl; simpa using isSec_rot h
  | 2, _ =>
    obtain ⟨rfl, rfl⟩ := e2 rfl
    have := isSec_rot (isSec_rot h)
    rwa [show ((k + 16) % 64 + 16) % 64 = (k + 16 * ((2 : Nat) : Int)) % 64 from by omega] at this
  | 3, _ =>
    obtain ⟨rfl, rfl⟩ := e3 rfl
    have := isSec_rot (isSec_rot (isSec_rot h))
    rwa [show (((k + 16) % 64 + 16) % 64 + 16) % 64 = (k + 16 * ((3 : Nat) : Int)) % 64 from by omega, Int.neg_neg] at this
theorem ex0 (x y : Int) (hq : Quarter 0 x y) : ∃ k, IsSec k x y := by
  have h16 : d ((16 : Nat) : Int) x y < 0 := by
    show (-12 : Int) * y - 253 * x < 0
    unfold Quarter at hq; omega
  obtain ⟨k, a, b, c⟩ := first_neg (fun j : Nat => d (j : Int) x y) 16 h16
  refine ⟨k, sec0 k x y (by omega) (by omega) hq ?_ (fun _ => b)⟩
  intro j h0 h1
  have := c j.toNat (by omega)
  simpa [Int.toNat_of_nonneg h0] using this
theorem four (x y : Int) (h : x ≠ 0 ∨ y ≠ 0) (a : ¬ Quarter 0 x y) (b : ¬ Quarter 0 y (-x)) (c : ¬ Quarter 0 (-x) (-y)) (e : ¬ Quarter 0 (-y) x) : False := by
  have q : ∀ x y : Int, Quarter 0 x y ↔ (0 < x ∧ 0 ≤ y) := by intro x y; simp [Quarter]
  rw [q] at a b c e
  omega
theorem ex_sec (x y : Int) (h : x ≠ 0 ∨ y ≠ 0) : ∃ k, IsSec k x y := by
  by_cases a : Quarter 0 x y
  · exact ex0 x y a
  by_cases b : Quarter 0 y (-x)
  · obtain ⟨k, hk⟩ := ex0 _ _ b
    have r := isSec_rotN 1 k x y y (-x) hk (by omega) (by omega) (by omega) (by omega) (by omega)
    exact ⟨_, r⟩
  by_cases c : Quarter 0 (-x) (-y)
  · obtain ⟨k, hk⟩ := ex0 _ _ c
    have r := isSec_rotN 2 k x y (-x) (-y) hk (by omega) (by omega) (by omega) (by omega) (by omega)
    exact ⟨_, r⟩
  by_cases e : Quarter 0 (-y) x
  · obtain ⟨k, hk⟩ := ex0 _ _ e
    have r := isSec_rotN 3 k x y (-y) x hk (by omega) (by omega) (by omega) (by omega) (by omega)
    exact ⟨_, r⟩
  · exact (four x y h a b c e).elim
/-- The sector of a number; 0 of 0. -/
def secF (x y : Int) : Int :=
  match (List.range 64).find? (fun k : Nat => decide (0 ≤ d ((k : Int) - 1) x y ∧ d (k : Int) x y < 0)) with
  | some k => k
  | none => 0
theorem secF_eq {k x y : Int} (h : IsSec k x y) : secF x y = k := by
  have hd := isSec_d.1 h
  unfold secF
  cases hf : (List.range 64).find? (fun k : Nat => decide (0 ≤ d ((k : Int) - 1) x y ∧ d (k : Int) x y < 0)) with
  | none =>
    rw [List.find?_eq_none] at hf
    have := hf k.toNat (by simp; omega)
    simp [Int.toNat_of_nonneg hd.1] at this
    exact absurd hd.2.2.2 (by have := this hd.2.2.1; omega)
  | some j =>
    have h1 := List.find?_some hf
    have h2 := List.mem_of_find?_eq_some hf
    simp at h1 h2
    show (j : Int) = k
    have a0 : (0 : Int) ≤ (j : Int) := by omega
    have a1 : (j : Int) < 64 := by omega
    exact uniq (isSec_d.2 ⟨a0, a1, h1.1, h1.2⟩) h
theorem secF_is (x y : Int) (h : x ≠ 0 ∨ y ≠ 0) : IsSec (secF x y) x y := by
  obtain ⟨k, hk⟩ := ex_sec x y h
  rw [secF_eq hk]; exact hk
theorem secF_zero : secF 0 0 = 0 := by decide
/-- The two cross products and the fine angle. -/
def fa (x y : Int) : Int := d (secF x y - 1) x y
def fb (x y : Int) : Int := - d (secF x y) x y
def fineF (x y : Int) : Int := if x = 0 ∧ y = 0 then 0 else (64 * secF x y - 32 + 64 * fa x y / (fa x y + fb x y)) % 4096
end Go.Proofs.Ytcaaecmbbbdopaa.Ang
namespace Go.Proofs.Ytcaaecmbbbdopaa.Ang
/-- The cross product of two boundaries. -/
def xx (i j : Int) : Int := mi i * mq j - mq i * mi j
theorem xx_mod (i j : Int) : xx (i % 64) (j % 64) = xx i j := by unfold xx; rw [(mi_mod i).1, (mi_mod i).2, (mi_mod j).1, (mi_mod j).2]
theorem xx_tab : ∀ i : Fin 64, ∀ n : Fin 33, (0 ≤ xx (i.val : Int) ((i.val : Int) + (n.val : Int))) ∧ (1 ≤ n.val → n.val ≤ 31 → 0 < xx (i.val : Int) ((i.val : Int) + (n.val : Int))) := by decide +kernel
theorem xx_nonneg (i n : Int) (h0 : 0 ≤ n) (h1 : n ≤ 32) : 0 ≤ xx i (i + n) := by
  have h := (xx_tab ⟨(i % 64).toNat, by omega⟩ ⟨n.toNat, by omega⟩).1
  simp only [Int.toNat_of_nonneg h0, Int.toNat_of_nonneg (show 0 ≤ i % 64 by omega)] at h
  rw [← xx_mod, show (i + n) % 64 = (i % 64 + n) % 64 from by omega, show i % 64 = i % 64 % 64 from by omega, xx_mod]
  simpa using h
theorem xx_pos (i n : Int) (h0 : 1 ≤ n) (h1 : n ≤ 31) : 0 < xx i (i + n) := by
  have n1 : 1 ≤ n.toNat := by omega
  have n2 : n.toNat ≤ 31 := by omega
  have h := (xx_tab ⟨(i % 64).toNat, by omega⟩ ⟨n.toNat, by omega⟩).2 n1 n2
  simp only [Int.toNat_of_nonneg (show 0 ≤ n by omega), Int.toNat_of_nonneg (show 0 ≤ i % 64 by omega)] at h
  rw [← xx_mod, show (i + n) % 64 = (i % 64 + n) % 64 from by omega, show i % 64 = i % 64 % 64 from by omega, xx_mod]
  simpa using h
theorem ring4 (a1 a2 b1 b2 c1 c2 e1 e2 x y u v : Int) :
    ((a1 * b2 - a2 * b1) * (c1 * e2 - c2 * e1)) * (x * v - y * u) =
      (a1 * y - a2 * x) * (c1 * v - c2 * u) * (b1 * e2 - b2 * e1) + (a1 * y - a2 * x) * (u * e2 - v * e1) * (b1 * c2 - b2 * c1)
      + (x * b2 - y * b1) * (c1 * v - c2 * u) * (a1 * e2 - a2 * e1) + (x * b2 - y * b1) * (u * e2 - v * e1) * (a1 * c2 - a2 * c1) := by grind

theorem cross_pos {k n x y u v : Int} (hs : IsSec k x y) (ht : IsSec ((k + n) % 64) u v) (h0 : 1 ≤ n) (h1 : n ≤ 31) : 0 < x * v - y * u := by
  have s := isSec_d.1 hs
  have t := isSec_d.1 ht
  have e1 : d ((k + n) % 64 - 1) u v = d (k + n - 1) u v := by rw [← d_mod, show ((k + n) % 64 - 1) % 64 = (k + n - 1) % 64 from by omega, d_mod]
  rw [e1, d_mod] at t
  have r := ring4 (mi (k - 1)) (mq (k - 1)) (mi k) (mq k) (mi (k + n - 1)) (mq (k + n - 1)) (mi (k + n)) (mq (k + n)) x y u v
  have c1 : 0 < xx (k - 1) k := by simpa [show k - 1 + 1 = k from by omega] using xx_pos (k - 1) 1 (by omega) (by omega)
  have c2 : 0 < xx (k + n - 1) (k + n) := by simpa [show k + n - 1 + 1 = k + n from by omega] using xx_pos (k + n - 1) 1 (by omega) (by omega)
  have p1 : 0 ≤ xx k (k + n) := xx_nonneg k n (by omega) (by omega)
  have p2 : 0 ≤ xx k (k + n - 1) := by simpa [show k + (n - 1) = k + n - 1 from by omega] using xx_nonneg k (n - 1) (by omega) (by omega)
  have p3 : 0 ≤ xx (k - 1) (k + n) := by simpa [show k - 1 + (n + 1) = k + n from by omega] using xx_nonneg (k - 1) (n + 1) (by omega) (by omega)
  have p4 : 0 < xx (k - 1) (k + n - 1) := by simpa [show k - 1 + n = k + n - 1 from by omega] using xx_pos (k - 1) n (by omega) (by omega)
  have b1 : 0 < x * mq k - y * mi k := by have := s.2.2.2; unfold d at this; rw [Int.mul_comm x, Int.mul_comm y]; omega
  have b2 : 0 < u * mq (k + n) - v * mi (k + n) := by have := t.2.2.2; unfold d at this; rw [Int.mul_comm u, Int.mul_comm v]; omega
  have a1 : 0 ≤ mi (k - 1) * y - mq (k - 1) * x := s.2.2.1
  have a2 : 0 ≤ mi (k + n - 1) * v - mq (k + n - 1) * u := t.2.2.1
  unfold xx at c1 c2 p1 p2 p3 p4
  have q1 := Int.mul_nonneg (Int.mul_nonneg a1 a2) p1
  have q2 := Int.mul_nonneg (Int.mul_nonneg a1 (Int.le_of_lt b2)) p2
  have q3 := Int.mul_nonneg (Int.mul_nonneg (Int.le_of_lt b1) a2) p3
  have q4 := Int.mul_pos (Int.mul_pos b1 b2) p4
  have cc := Int.mul_pos c1 c2
  by_cases g : 0 < x * v - y * u
  · exact g
  · have := Int.mul_nonneg (Int.le_of_lt cc) (show 0 ≤ -(x * v - y * u) by omega)
    rw [Int.mul_neg, r] at this
    omega
theorem fab {k x y : Int} (h : IsSec k x y) : fa x y = d (k - 1) x y ∧ fb x y = - d k x y ∧ 0 ≤ fa x y ∧ 0 < fb x y := by
  have e := secF_eq h
  have := isSec_d.1 h
  unfold fa fb; rw [e]; omega
/-- The floor of the share. -/
def fl (x y : Int) : Int := 64 * fa x y / (fa x y + fb x y)
theorem fl_bd {x y : Int} (h : x ≠ 0 ∨ y ≠ 0) : 0 ≤ fl x y ∧ fl x y ≤ 63 := by
  have := fab (secF_is x y h)
  unfold fl
  refine ⟨Int.ediv_nonneg (by omega) (by omega), ?_⟩
  have := Int.ediv_lt_of_lt_mul (a := 64 * fa x y) (b := 64) (c := fa x y + fb x y) (by omega) (by omega)
  omega
theorem fineF_eq {x y : Int} (h : x ≠ 0 ∨ y ≠ 0) : fineF x y = (64 * secF x y - 32 + fl x y) % 4096 := by
  unfold fineF fl; rw [if_neg (by omega)]
theorem fineF_bd (x y : Int) : 0 ≤ fineF x y ∧ fineF x y < 4096 := by
  unfold fineF; split <;> omega
theorem ne_rot {x y : Int} (h : x ≠ 0 ∨ y ≠ 0) : -y ≠ 0 ∨ x ≠ 0 := by omega
theorem secF_rot {x y : Int} (h : x ≠ 0 ∨ y ≠ 0) : secF (-y) x = (secF x y + 16) % 64 := secF_eq (isSec_rot (secF_is x y h))
theorem fl_rot {x y : Int} (h : x ≠ 0 ∨ y ≠ 0) : fl (-y) x = fl x y := by
  have a := fab (isSec_rot (secF_is x y h))
  have b := fab (secF_is x y h)
  unfold fl
  have e1 : fa (-y) x = fa x y := by
    rw [a.1, b.1, ← d_mod, show ((secF x y + 16) % 64 - 1) % 64 = (secF x y - 1 + 16) % 64 from by omega, d_mod, d_rot]
  have e2 : fb (-y) x = fb x y := by rw [a.2.1, b.2.1, d_mod, d_rot]
  rw [e1, e2]
theorem fineF_rot {x y : Int} (h : x ≠ 0 ∨ y ≠ 0) : fineF (-y) x = (fineF x y + 1024) % 4096 := by
  rw [fineF_eq (ne_rot h), fineF_eq h, fl_rot h, secF_rot h]; omega
theorem fineF_neg {x y : Int} (h : x ≠ 0 ∨ y ≠ 0) : fineF (-x) (-y) = (fineF x y + 2048) % 4096 := by
  rw [fineF_rot (ne_rot h), fineF_rot h]; omega
theorem secF_neg {x y : Int} (h : x ≠ 0 ∨ y ≠ 0) : secF (-x) (-y) = (secF x y + 32) % 64 := by
  rw [secF_rot (ne_rot h), secF_rot h]; omega
theorem fl_neg {x y : Int} (h : x ≠ 0 ∨ y ≠ 0) : fl (-x) (-y) = fl x y := by
  rw [fl_rot (ne_rot h), fl_rot h]
theorem ring2 (a1 a2 b1 b2 x y u v : Int) : (a1 * v - a2 * u) * (x * b2 - y * b1) - (a1 * y - a2 * x) * (u * b2 - v * b1) = (a1 * b2 - a2 * b1) * (x * v - y * u) := by grind
/-- In one sector a turn that is not negative does not let the share fall. -/
theorem fl_mono {x y u v : Int} (h : x ≠ 0 ∨ y ≠ 0) (h' : u ≠ 0 ∨ v ≠ 0) (he : secF x y = secF u v) (hc : 0 ≤ x * v - y * u) : fl x y ≤ fl u v := by
  have s := secF_is x y h
  have t := secF_is u v h'
  rw [← he] at t
  have a := fab s
  have b := fab t
  generalize secF x y = k at *
  have c1 : 0 < xx (k - 1) k := by simpa [show k - 1 + 1 = k from by omega] using xx_pos (k - 1) 1 (by omega) (by omega)
  have r := ring2 (mi (k - 1)) (mq (k - 1)) (mi k) (mq k) x y u v
  have e : fa u v * fb x y - fa x y * fb u v = xx (k - 1) k * (x * v - y * u) := by
    rw [a.1, a.2.1, b.1, b.2.1]; unfold d xx; rw [← r]
    have e1 : -(mi k * y - mq k * x) = x * mq k - y * mi k := by rw [Int.mul_comm x, Int.mul_comm y]; omega
    have e2 : -(mi k * v - mq k * u) = u * mq k - v * mi k := by rw [Int.mul_comm u, Int.mul_comm v]; omega
    rw [e1, e2]
  have e0 : 0 ≤ fa u v * fb x y - fa x y * fb u v := by rw [e]; exact Int.mul_nonneg (by omega) hc
  unfold fl
  generalize fa x y = p at *
  generalize fb x y = q at *
  generalize fa u v = p' at *
  generalize fb u v = q' at *
  have hp : 0 ≤ p := a.2.2.1
  have hq : 0 < q := a.2.2.2
  have hp' : 0 ≤ p' := b.2.2.1
  have hq' : 0 < q' := b.2.2.2
  refine (Int.le_ediv_iff_mul_le (by omega)).2 ?_
  have g1 : 64 * p / (p + q) * (p + q) ≤ 64 * p := Int.ediv_mul_le _ (by omega)
  have g0 : 0 ≤ 64 * p / (p + q) := Int.ediv_nonneg (by omega) (by omega)
  generalize 64 * p / (p + q) = z at *
  -- z (p + q) ≤ 64 p, so z (p + q) (p' + q') ≤ 64 p (p' + q') ≤ 64 p' (p + q)
  have g2 : z * (p + q) * (p' + q') ≤ 64 * p * (p' + q') := Int.mul_le_mul_of_nonneg_right g1 (by omega)
  have g3 : 64 * p * (p' + q') ≤ 64 * p' * (p + q) := by
    have : 64 * p' * (p + q) - 64 * p * (p' + q') = 64 * (p' * q - p * q') := by grind
    omega
  have g4 : z * (p' + q') * (p + q) ≤ 64 * p' * (p + q) := by
    have : z * (p' + q') * (p + q) = z * (p + q) * (p' + q') := by grind
    omega
  exact Int.le_of_mul_le_mul_right g4 (by omega)
/-- The fine angle does not fall under a positive turn of less than a half, nor grow by more than a half. -/
theorem grows {x y u v : Int} (h : x ≠ 0 ∨ y ≠ 0) (h' : u ≠ 0 ∨ v ≠ 0) (hc : 0 < x * v - y * u) : (fineF u v - fineF x y) % 4096 ≤ 2048 := by
  have s := secF_is x y h
  have t := secF_is u v h'
  have fs := fl_bd h
  have ft := fl_bd h'
  have n0 : 0 ≤ (secF u v - secF x y) % 64 ∧ (secF u v - secF x y) % 64 < 64 := by omega
  rw [fineF_eq h, fineF_eq h']
  have s0 := s.1; have s1 := s.2.1; have t0 := t.1; have t1 := t.2.1
  by_cases c0 : secF x y = secF u v
  · have := fl_mono h h' c0 (by omega)
    rw [c0]; omega
  by_cases c1 : (secF u v - secF x y) % 64 ≤ 31
  · omega
  by_cases c2 : (secF u v - secF x y) % 64 = 32
  · have e := secF_neg h'
    have e2 : secF (-u) (-v) = secF x y := by omega
    have h2 : -u ≠ 0 ∨ -v ≠ 0 := by omega
    have m := fl_mono h2 h e2 (by
      have : -u * y - -v * x = x * v - y * u := by grind
      omega)
    rw [fl_neg h'] at m
    omega
  · exfalso
    have := cross_pos (k := secF u v) (n := (secF x y - secF u v) % 64) t (by rwa [show (secF u v + (secF x y - secF u v) % 64) % 64 = secF x y from by omega]) (by omega) (by omega)
    have e : u * y - v * x = - (x * v - y * u) := by grind
    omega
end Go.Proofs.Ytcaaecmbbbdopaa.Ang
namespace Go.Proofs.Ytcaaecmbbbdopaa
namespace Ang
theorem d_scale (k x y m : Int) : d k (x * m) (y * m) = m * d k x y := by unfold d; grind
theorem isSec_scale {k x y m : Int} (hm : 0 < m) (h : IsSec k x y) : IsSec k (x * m) (y * m) := by
  rw [isSec_d] at *
  refine ⟨h.1, h.2.1, ?_, ?_⟩
  · rw [d_scale]; exact Int.mul_nonneg (by omega) h.2.2.1
  · rw [d_scale]; exact Int.mul_neg_of_pos_of_neg hm h.2.2.2
theorem ne_scale {x y m : Int} (hm : 0 < m) (h : x ≠ 0 ∨ y ≠ 0) : x * m ≠ 0 ∨ y * m ≠ 0 := by
  rcases h with h | h
  · exact .inl (Int.mul_ne_zero h (by omega))
  · exact .inr (Int.mul_ne_zero h (by omega))
theorem secF_scale {x y m : Int} (hm : 0 < m) (h : x ≠ 0 ∨ y ≠ 0) : secF (x * m) (y * m) = secF x y := secF_eq (isSec_scale hm (secF_is x y h))
theorem fineF_scale {x y m : Int} (hm : 0 < m) : fineF (x * m) (y * m) = fineF x y := by
  by_cases h : x ≠ 0 ∨ y ≠ 0
  · rw [fineF_eq (ne_scale hm h), fineF_eq h, secF_scale hm h]
    unfold fl
    have a := fab (isSec_scale hm (secF_is x y h))
    have b := fab (secF_is x y h)
    rw [a.1, a.2.1, b.1, b.2.1, d_scale, d_scale, show 64 * (m * d (secF x y - 1) x y) = m * (64 * d (secF x y - 1) x y) by grind, show m * d (secF x y - 1) x y + -(m * d (secF x y) x y) = m * (d (secF x y - 1) x y + -d (secF x y) x y) by grind, Int.mul_ediv_mul_of_pos _ _ hm]
  · obtain ⟨rfl, rfl⟩ : x = 0 ∧ y = 0 := by omega
    simp
/-- the table written out -/
def tabL : List (Int × Int) := [(127, 0), (126, 12), (125, 25), (122, 37), (117, 49), (112, 60), (106, 71), (98, 81), (90, 90), (81, 98), (71, 106), (60, 112), (49, 117), (37, 122), (25, 125), (12, 126), (0, 127), (-12, 126), (-25, 125), (-37, 122), (-49, 117), (-60, 112), (-71, 106), (-81, 98), (-90, 90), (-98, 81), (-106, 71), (-112, 60), (-117, 49), (-122, 37), (-125, 25), (-126, 12), (-127, 0), (-126, -12), (-125, -25), (-122, -37), (-117, -49), (-112, -60), (-106, -71), (-98, -81), (-90, -90), (-81, -98), (-71, -106), (-60, -112), (-49, -117), (-37, -122), (-25, -125), (-12, -126), (0, -127), (12, -126), (25, -125), (37, -122), (49, -117), (60, -112), (71, -106), (81, -98), (90, -90), (98, -81), (106, -71), (112, -60), (117, -49), (122, -37), (125, -25), (126, -12)]
theorem tab_lit : tab = tabL := by decide
theorem m_lit1 : ∀ k : Fin 64, (mi ((k.val : Int) - 1), mq ((k.val : Int) - 1)) = bnd.getD ((k.val + 63) % 64) (0, 0) := by decide +kernel
def dB (k : Nat) (x y : Int) : Int := (bnd.getD k (0, 0)).1 * y - (bnd.getD k (0, 0)).2 * x
theorem dB_eq {k : Nat} (h : k < 64) (x y : Int) : d (k : Int) x y = dB k x y := by
  have := m_lit (k : Int) (by omega) (by omega)
  rw [Int.toNat_natCast] at this
  unfold d dB
  rw [← this]
theorem dB_eq1 {k : Nat} (h : k < 64) (x y : Int) : d ((k : Int) - 1) x y = dB ((k + 63) % 64) x y := by
  have := m_lit1 ⟨k, h⟩
  unfold d dB
  rw [← this]
/-- the offset of the rate of x, y from 64 j, if its sector is k -/
def offK (k : Nat) (j x y : Int) : Int := ((64 * (k : Int) - 32 + 64 * dB ((k + 63) % 64) x y / (dB ((k + 63) % 64) x y + - dB k x y)) % 4096 - 64 * j + 2048) % 4096 - 2048
def okK (j x y : Int) (k : Nat) : Bool := decide (k < 64) && decide (0 ≤ dB ((k + 63) % 64) x y) && decide (dB k x y < 0) && decide (offK k j x y ≤ 16) && decide (-16 ≤ offK k j x y) && decide (x ≠ 0 ∨ y ≠ 0)
def okS (q j : Nat) : Bool :=
  let a := tabL.getD q (0, 0)
  let b := tabL.getD ((q + j + 33) % 64) (0, 0)
  okK ((j : Int) - 31) (a.1 * b.1 + a.2 * b.2) (a.1 * b.2 - a.2 * b.1) ((j + 33) % 64) || okK ((j : Int) - 31) (a.1 * b.1 + a.2 * b.2) (a.1 * b.2 - a.2 * b.1) ((j + 34) % 64) || okK ((j : Int) - 31) (a.1 * b.1 + a.2 * b.2) (a.1 * b.2 - a.2 * b.1) ((j + 32) % 64)
theorem okS_all : ∀ q : Fin 64, ∀ j : Fin 63, okS q.val j.val = true := by decide +kernel
theorem okK_off {j x y : Int} {k : Nat} (h : okK j x y k = true) : (x ≠ 0 ∨ y ≠ 0) ∧ (fineF x y - 64 * j + 2048) % 4096 - 2048 ≤ 16 ∧ -16 ≤ (fineF x y - 64 * j + 2048) % 4096 - 2048 := by
  unfold okK at h
  simp only [Bool.and_eq_true, decide_eq_true_eq] at h
  obtain ⟨⟨⟨⟨⟨hk, h1⟩, h2⟩, h3⟩, h4⟩, h5⟩ := h
  have s : IsSec (k : Int) x y := isSec_d.2 ⟨by omega, by omega, by rw [dB_eq1 hk]; exact h1, by rw [dB_eq hk]; exact h2⟩
  have e : fineF x y = (64 * (k : Int) - 32 + 64 * dB ((k + 63) % 64) x y / (dB ((k + 63) % 64) x y + - dB k x y)) % 4096 := by
    rw [fineF_eq h5, secF_eq s]
    unfold fl fa fb
    rw [secF_eq s, dB_eq1 hk, dB_eq hk]
  rw [e]
  exact ⟨h5, h3, h4⟩
/-- THE LAW: entries q and q + j, j from -31 to 31, both times a positive number -/
theorem steps_law (q j m : Int) (h1 : -31 ≤ j) (h2 : j ≤ 31) (hm : 0 < m) : (fineF ((ti q * m) * (ti (q + j) * m) + (tq q * m) * (tq (q + j) * m)) ((ti q * m) * (tq (q + j) * m) - (tq q * m) * (ti (q + j) * m)) - 64 * j + 2048) % 4096 - 2048 ≤ 16 ∧ -16 ≤ (fineF ((ti q * m) * (ti (q + j) * m) + (tq q * m) * (tq (q + j) * m)) ((ti q * m) * (tq (q + j) * m) - (tq q * m) * (ti (q + j) * m)) - 64 * j + 2048) % 4096 - 2048 := by
  obtain ⟨Q, hQ, hQ2⟩ : ∃ Q : Nat, Q < 64 ∧ (q % 64).toNat = Q := ⟨_, by omega, rfl⟩
  obtain ⟨J, hJ, hJ2⟩ : ∃ J : Nat, J < 63 ∧ (J : Int) - 31 = j := ⟨(j + 31).toNat, by omega, by omega⟩
  have e2 : ((q + j) % 64).toNat = (Q + J + 33) % 64 := by omega
  have H := okS_all ⟨Q, hQ⟩ ⟨J, hJ⟩
  have t1 : ti q = (tabL.getD Q (0, 0)).1 := by unfold ti; rw [hQ2, tab_lit]
  have t2 : tq q = (tabL.getD Q (0, 0)).2 := by unfold tq; rw [hQ2, tab_lit]
  have t3 : ti (q + j) = (tabL.getD ((Q + J + 33) % 64) (0, 0)).1 := by unfold ti; rw [e2, tab_lit]
  have t4 : tq (q + j) = (tabL.getD ((Q + J + 33) % 64) (0, 0)).2 := by unfold tq; rw [e2, tab_lit]
  unfold okS at H
  simp only at H
  rw [← t1, ← t2, ← t3, ← t4, hJ2] at H
  have r1 : (ti q * m) * (ti (q + j) * m) + (tq q * m) * (tq (q + j) * m) = (ti q * ti (q + j) + tq q * tq (q + j)) * (m * m) := by grind
  have r2 : (ti q * m) * (tq (q + j) * m) - (tq q * m) * (ti (q + j) * m) = (ti q * tq (q + j) - tq q * ti (q + j)) * (m * m) := by grind
  rw [r1, r2, fineF_scale (Int.mul_pos hm hm)]
  simp only [Bool.or_eq_true] at H
  rcases H with (H | H) | H <;> exact (okK_off H).2
end Ang
end Go.Proofs.Ytcaaecmbbbdopaa
