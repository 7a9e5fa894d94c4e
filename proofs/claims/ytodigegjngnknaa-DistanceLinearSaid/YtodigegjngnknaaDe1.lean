/- Plain facts and contracts of functions of the program, out of walks. Their conditions stand ahead of each. -/

set_option linter.unusedVariables false
set_option linter.unusedSimpArgs false
namespace Go.Proofs.Ytodigegjngnknaa.NL
open Go
/-- the number that limbs stand for -/
def val : List Nat → Nat
  | [] => 0
  | x :: l => x + 4294967296 * val l
/-- all limbs are less than 2^32 -/
def Ok (l : List Nat) : Prop := ∀ x ∈ l, x < 4294967296
theorem Ok.nil : Ok [] := by intro x h; cases h
theorem Ok.cons {x : Nat} {l : List Nat} (hx : x < 4294967296) (h : Ok l) : Ok (x :: l) := by
  intro y hy; rcases List.mem_cons.1 hy with rfl | hy; exact hx; exact h y hy
theorem Ok.head {x : Nat} {l : List Nat} (h : Ok (x :: l)) : x < 4294967296 := h x (List.mem_cons_self ..)
theorem Ok.tail {x : Nat} {l : List Nat} (h : Ok (x :: l)) : Ok l := fun y hy => h y (List.mem_cons_of_mem _ hy)
theorem Ok.append {l m : List Nat} (h : Ok l) (k : Ok m) : Ok (l ++ m) := by
  intro x hx; rcases List.mem_append.1 hx with hx | hx; exact h x hx; exact k x hx
theorem Ok.left {l m : List Nat} (h : Ok (l ++ m)) : Ok l := fun x hx => h x (List.mem_append_left _ hx)
theorem Ok.right {l m : List Nat} (h : Ok (l ++ m)) : Ok m := fun x hx => h x (List.mem_append_right _ hx)
theorem Ok.take {l : List Nat} (h : Ok l) (k : Nat) : Ok (l.take k) := fun x hx => h x (List.mem_of_mem_take hx)
theorem Ok.drop {l : List Nat} (h : Ok l) (k : Nat) : Ok (l.drop k) := fun x hx => h x (List.mem_of_mem_drop hx)
theorem Ok.get {l : List Nat} (h : Ok l) {k : Nat} (hk : k < l.length) : l[k] < 4294967296 := h _ (List.getElem_mem hk)
theorem Ok.getD {l : List Nat} (h : Ok l) (k : Nat) : l.getD k 0 < 4294967296 := by
  rw [List.getD_eq_getElem?_getD]
  rcases Nat.lt_or_ge k l.length with hk | hk
  · rw [List.getElem?_eq_getElem hk]; exact h.get hk
  · rw [List.getElem?_eq_none hk]; decide
theorem Ok.set {l : List Nat} (h : Ok l) (k : Nat) {x : Nat} (hx : x < 4294967296) : Ok (l.set k x) := by
  intro y hy
  rcases List.mem_or_eq_of_mem_set hy with hy | rfl
  · exact h y hy
  · exact hx
theorem Ok.zeros (n : Nat) : Ok (List.replicate n 0) := by intro x hx; rw [(List.mem_replicate.1 hx).2]; decide
theorem val_append (l m : List Nat) : val (l ++ m) = val l + 4294967296 ^ l.length * val m := by
  induction l with
  | nil => simp [val]
  | cons x l ih =>
    rw [List.cons_append, val, val, ih, List.length_cons, Nat.pow_succ, Nat.mul_add, ← Nat.mul_assoc, Nat.mul_comm 4294967296 (4294967296 ^ l.length), Nat.add_assoc]
theorem val_single (x : Nat) : val [x] = x := by simp [val]
theorem val_snoc (l : List Nat) (x : Nat) : val (l ++ [x]) = val l + 4294967296 ^ l.length * x := by rw [val_append, val_single]
theorem val_zeros (n : Nat) : val (List.replicate n 0) = 0 := by
  induction n with
  | zero => rfl
  | succ n ih => rw [List.replicate_succ, val, ih]
theorem val_lt : ∀ {l : List Nat}, Ok l → val l < 4294967296 ^ l.length := by
  intro l
  induction l with
  | nil => intro _; simp [val]
  | cons x l ih =>
    intro h
    have h1 := ih h.tail
    have h2 := h.head
    rw [val, List.length_cons, Nat.pow_succ, Nat.mul_comm]
    have : val l * 4294967296 + 4294967296 ≤ 4294967296 ^ l.length * 4294967296 := by
      have := Nat.mul_le_mul_right 4294967296 (Nat.succ_le_of_lt h1)
      rw [Nat.succ_mul] at this
      exact this
    omega
theorem take_succ {l : List Nat} {k : Nat} (hk : k < l.length) : l.take (k + 1) = l.take k ++ [l[k]] := by rw [List.take_succ_eq_append_getElem hk]
theorem val_take_succ {l : List Nat} {k : Nat} (hk : k < l.length) : val (l.take (k + 1)) = val (l.take k) + 4294967296 ^ k * l[k] := by
  rw [take_succ hk, val_snoc, List.length_take, Nat.min_eq_left (by omega)]
theorem val_take_getD (l : List Nat) (k : Nat) : val (l.take (k + 1)) = val (l.take k) + 4294967296 ^ k * l.getD k 0 := by
  rcases Nat.lt_or_ge k l.length with hk | hk
  · rw [val_take_succ hk, List.getD_eq_getElem?_getD, List.getElem?_eq_getElem hk]; rfl
  · rw [List.getD_eq_getElem?_getD, List.getElem?_eq_none hk, List.take_of_length_le (by omega), List.take_of_length_le hk]; simp
theorem val_take_all {l : List Nat} {k : Nat} (hk : l.length ≤ k) : val (l.take k) = val l := by rw [List.take_of_length_le hk]
theorem val_split (l : List Nat) (k : Nat) (hk : k ≤ l.length) : val l = val (l.take k) + 4294967296 ^ k * val (l.drop k) := by
  have h := val_append (l.take k) (l.drop k)
  rw [List.take_append_drop, List.length_take, Nat.min_eq_left hk] at h
  exact h
theorem val_drop_getD (l : List Nat) (k : Nat) : val (l.drop k) = l.getD k 0 + 4294967296 * val (l.drop (k + 1)) := by
  rcases Nat.lt_or_ge k l.length with hk | hk
  · rw [List.drop_eq_getElem_cons hk, val, List.getD_eq_getElem?_getD, List.getElem?_eq_getElem hk]; rfl
  · rw [List.drop_of_length_le hk, List.drop_of_length_le (by omega), List.getD_eq_getElem?_getD, List.getElem?_eq_none hk]; rfl
/-- the limbs of a number, none of them behind the last one that is not 0 -/
def limbs (n : Nat) : List Nat := if h : n = 0 then [] else n % 4294967296 :: limbs (n / 4294967296)
termination_by n
decreasing_by exact Nat.div_lt_self (Nat.pos_of_ne_zero h) (by decide)
theorem limbs_zero : limbs 0 = [] := by rw [limbs]; rfl
theorem limbs_pos {n : Nat} (h : n ≠ 0) : limbs n = n % 4294967296 :: limbs (n / 4294967296) := by rw [limbs, dif_neg h]
theorem val_limbs (n : Nat) : val (limbs n) = n := by
  induction n using Nat.strongRecOn with
  | ind n ih =>
    by_cases h : n = 0
    · subst h; rw [limbs_zero]; rfl
    · rw [limbs_pos h, val, ih _ (Nat.div_lt_self (Nat.pos_of_ne_zero h) (by decide))]; omega
theorem ok_limbs (n : Nat) : Ok (limbs n) := by
  induction n using Nat.strongRecOn with
  | ind n ih =>
    by_cases h : n = 0
    · subst h; rw [limbs_zero]; exact Ok.nil
    · rw [limbs_pos h]; exact Ok.cons (Nat.mod_lt _ (by decide)) (ih _ (Nat.div_lt_self (Nat.pos_of_ne_zero h) (by decide)))
theorem limbs_nil {n : Nat} : limbs n = [] ↔ n = 0 := by
  constructor
  · intro h
    have := val_limbs n
    rw [h] at this
    exact this.symm
  · rintro rfl; exact limbs_zero
theorem limbs_inj {m n : Nat} (h : limbs m = limbs n) : m = n := by rw [← val_limbs m, h, val_limbs]
/-- the last limb is not 0 -/
def Trim (l : List Nat) : Prop := ∀ k, l.length = k + 1 → l.getD k 0 ≠ 0
theorem Trim.nil : Trim [] := by intro k hk; cases hk
theorem trim_limbs (n : Nat) : Trim (limbs n) := by
  induction n using Nat.strongRecOn with
  | ind n ih =>
    by_cases h : n = 0
    · subst h; rw [limbs_zero]; exact Trim.nil
    · rw [limbs_pos h]
      have h1 := ih _ (Nat.div_lt_self (Nat.pos_of_ne_zero h) (by decide : 1 < 4294967296))
      intro k hk
      cases k with
      | zero =>
        rw [List.length_cons] at hk
        have h2 : limbs (n / 4294967296) = [] := List.eq_nil_of_length_eq_zero (by omega)
        rw [limbs_nil] at h2
        simp
        omega
      | succ k =>
        rw [List.length_cons] at hk
        have := h1 k (by omega)
        simpa using this
theorem limbs_val : ∀ {l : List Nat}, Ok l → Trim l → limbs (val l) = l := by
  intro l
  induction l with
  | nil => intro _ _; exact limbs_zero
  | cons x l ih =>
    intro h t
    have hx := h.head
    have t' : Trim l := by
      intro k hk
      have := t (k + 1) (by simp [hk])
      simpa using this
    have hne : val (x :: l) ≠ 0 := by
      intro h0
      rw [val] at h0
      have hx0 : x = 0 := by omega
      have hl : val l = 0 := by omega
      have e := ih h.tail t'
      rw [hl, limbs_zero] at e
      subst e
      have := t 0 rfl
      simp at this
      omega
    rw [limbs_pos hne, val, show (x + 4294967296 * val l) % 4294967296 = x by omega, show (x + 4294967296 * val l) / 4294967296 = val l by omega, ih h.tail t']
theorem limbs_len (n k : Nat) : (limbs n).length ≤ k ↔ n < 4294967296 ^ k := by
  constructor
  · intro h
    have h1 := val_lt (ok_limbs n)
    rw [val_limbs] at h1
    exact Nat.lt_of_lt_of_le h1 (Nat.pow_le_pow_right (by decide) h)
  · intro h
    rcases Nat.lt_or_ge k (limbs n).length with hl | hl
    · exfalso
      -- the last limb is not 0
      obtain ⟨m, hm⟩ : ∃ m, (limbs n).length = m + 1 := ⟨(limbs n).length - 1, by omega⟩
      have t := trim_limbs n m hm
      have s := val_split (limbs n) m (by omega)
      rw [val_limbs, val_drop_getD] at s
      have : 4294967296 ^ k ≤ 4294967296 ^ m := Nat.pow_le_pow_right (by decide) (by omega)
      have h2 : 4294967296 ^ m * 1 ≤ 4294967296 ^ m * ((limbs n).getD m 0 + 4294967296 * val ((limbs n).drop (m + 1))) := Nat.mul_le_mul_left _ (by omega)
      omega
    · exact hl
theorem limbs_len_mono {m n : Nat} (h : m ≤ n) : (limbs m).length ≤ (limbs n).length :=
  (limbs_len m _).2 (Nat.lt_of_le_of_lt h ((limbs_len n _).1 (Nat.le_refl _)))
theorem limbs_len_le_of_ok {l : List Nat} (h : Ok l) : (limbs (val l)).length ≤ l.length := (limbs_len _ _).2 (val_lt h)
/-- the limbs of a list's number are the list without zeros at its end -/
theorem limbs_take {l : List Nat} (h : Ok l) {k : Nat} (hk : k ≤ l.length) (hv : val (l.take k) = val l) (ht : Trim (l.take k)) : l.take k = limbs (val l) := by
  rw [← hv, limbs_val (h.take k) ht]
/-- valid limbs -/
theorem limbs_of_trim {l : List Nat} (h : Ok l) (t : Trim l) : ∃ n, l = limbs n := ⟨val l, (limbs_val h t).symm⟩
theorem limbs_lt_of_len {m n : Nat} (h : (limbs m).length < (limbs n).length) : m < n := by
  rcases Nat.lt_or_ge m n with h1 | h1
  · exact h1
  · have := limbs_len_mono h1; omega
theorem limbs_one {n : Nat} (h0 : n ≠ 0) (h : n < 4294967296) : limbs n = [n] := by
  rw [limbs_pos h0, show n % 4294967296 = n by omega, show n / 4294967296 = 0 by omega, limbs_zero]
/-- Two lists of one length are compared by their last limbs that differ. -/
theorem val_lt_of_drop {l m : List Nat} (hl : Ok l) (hlen : l.length = m.length) {k : Nat} (hk : k < l.length) (he : l.drop (k + 1) = m.drop (k + 1)) (h : l.getD k 0 < m.getD k 0) : val l < val m := by
  have s1 := val_split l k (by omega)
  have s2 := val_split m k (by omega)
  rw [val_drop_getD] at s1 s2
  rw [he] at s1
  have b := val_lt (hl.take k)
  rw [List.length_take, Nat.min_eq_left (by omega)] at b
  have h3 : 4294967296 ^ k * (l.getD k 0 + 4294967296 * val (m.drop (k + 1))) + 4294967296 ^ k ≤ 4294967296 ^ k * (m.getD k 0 + 4294967296 * val (m.drop (k + 1))) := by
    have := Nat.mul_le_mul_left (4294967296 ^ k) (show l.getD k 0 + 4294967296 * val (m.drop (k + 1)) + 1 ≤ m.getD k 0 + 4294967296 * val (m.drop (k + 1)) by omega)
    rw [Nat.mul_add _ _ 1, Nat.mul_one] at this
    exact this
  omega
theorem drop_eq_cons {l m : List Nat} {k : Nat} (hl : k < l.length) (hm : k < m.length) (he : l.drop (k + 1) = m.drop (k + 1)) (h : l.getD k 0 = m.getD k 0) : l.drop k = m.drop k := by
  have e1 := List.drop_eq_getElem_cons hl
  have e2 := List.drop_eq_getElem_cons hm
  rw [List.getD_eq_getElem?_getD, List.getD_eq_getElem?_getD, List.getElem?_eq_getElem hl, List.getElem?_eq_getElem hm] at h
  have h' : l[k] = m[k] := by simpa using h
  rw [e1, e2, he, h']
end Go.Proofs.Ytodigegjngnknaa.NL
namespace Go.Proofs.Ytodigegjngnknaa.NL
open Go
theorem set_zeros (pre : List Nat) (n : Nat) (x : Nat) : (pre ++ List.replicate (n + 1) 0).set pre.length x = (pre ++ [x]) ++ List.replicate n 0 := by
  rw [List.replicate_succ, List.set_append_right _ _ (Nat.le_refl _), Nat.sub_self, List.set_cons_zero, List.append_assoc]; rfl
theorem set_zeros' {pre : List Nat} {k n : Nat} (hk : pre.length = k) (hn : k < n) (x : Nat) : (pre ++ List.replicate (n - k) 0).set k x = (pre ++ [x]) ++ List.replicate (n - (k + 1)) 0 := by
  subst hk
  rw [show n - pre.length = (n - (pre.length + 1)) + 1 by omega, set_zeros]
theorem pow_split (k s : Nat) : 4294967296 ^ k * (s % 4294967296) + 4294967296 ^ (k + 1) * (s / 4294967296) = 4294967296 ^ k * s := by
  have h := Nat.mod_add_div s 4294967296
  rw [Nat.pow_succ, Nat.mul_assoc, ← Nat.mul_add, h]
theorem add_step {pre l1 l2 : List Nat} {k c : Nat} (hk : pre.length = k) (h : val pre + 4294967296 ^ k * c = val (l1.take k) + val (l2.take k)) :
    val (pre ++ [(l1.getD k 0 + l2.getD k 0 + c) % 4294967296]) + 4294967296 ^ (k + 1) * ((l1.getD k 0 + l2.getD k 0 + c) / 4294967296) = val (l1.take (k + 1)) + val (l2.take (k + 1)) := by
  rw [val_snoc, hk, val_take_getD, val_take_getD]
  have := pow_split k (l1.getD k 0 + l2.getD k 0 + c)
  rw [Nat.mul_add _ (l1.getD k 0 + l2.getD k 0), Nat.mul_add] at this
  generalize 4294967296 ^ (k + 1) * ((l1.getD k 0 + l2.getD k 0 + c) / 4294967296) = a at *
  generalize 4294967296 ^ k * ((l1.getD k 0 + l2.getD k 0 + c) % 4294967296) = b at *
  generalize 4294967296 ^ k * c = d at *
  generalize 4294967296 ^ k * l1.getD k 0 = e at *
  generalize 4294967296 ^ k * l2.getD k 0 = f at *
  omega
theorem add_end' {p a b P Q c q1 q2 : Nat} (h : p + Q * c = a + b) (b1 : a < q1) (b2 : b < q2) (p1 : q1 ≤ P) (p2 : q2 ≤ P) (hQ : P + P ≤ Q) : p = a + b ∧ c = 0 := by
  have hc : c = 0 := by
    rcases Nat.eq_zero_or_pos c with hc | hc
    · exact hc
    · have := Nat.le_mul_of_pos_right Q hc
      omega
  subst hc
  exact ⟨by omega, rfl⟩
/-- the sum is whole when all limbs are done -/
theorem add_end {pre l1 l2 : List Nat} {n c : Nat} (o1 : Ok l1) (o2 : Ok l2) (h1 : l1.length < n) (h2 : l2.length < n) (h : val pre + 4294967296 ^ n * c = val (l1.take n) + val (l2.take n)) : val pre = val l1 + val l2 ∧ c = 0 := by
  rw [val_take_all (Nat.le_of_lt h1), val_take_all (Nat.le_of_lt h2)] at h
  have b1 := val_lt o1
  have b2 := val_lt o2
  obtain ⟨m, rfl⟩ : ∃ m, n = m + 1 := ⟨n - 1, by omega⟩
  have p1 : 4294967296 ^ l1.length ≤ 4294967296 ^ m := Nat.pow_le_pow_right (by decide) (by omega)
  have p2 : 4294967296 ^ l2.length ≤ 4294967296 ^ m := Nat.pow_le_pow_right (by decide) (by omega)
  have hQ : 4294967296 ^ m + 4294967296 ^ m ≤ 4294967296 ^ (m + 1) := by
    rw [Nat.pow_succ]
    generalize 4294967296 ^ m = P
    omega
  exact add_end' h b1 b2 p1 p2 hQ
/-- what is borrowed -/
def brw (x y c : Nat) : Nat := if x < y + c then 1 else 0
theorem brw_le (x y c : Nat) : brw x y c ≤ 1 := by unfold brw; split <;> omega
theorem brw_eq (x y c : Nat) (hx : x < 4294967296) (hy : y < 4294967296) (hc : c ≤ 1) : (x + 4294967296 - y - c) % 4294967296 + y + c = x + 4294967296 * brw x y c := by unfold brw; split <;> omega
theorem sub_step {pre l1 l2 : List Nat} {k c : Nat} (o1 : Ok l1) (o2 : Ok l2) (hc : c ≤ 1) (hk : pre.length = k) (h : val pre + val (l2.take k) = val (l1.take k) + 4294967296 ^ k * c) :
    val (pre ++ [(l1.getD k 0 + 4294967296 - l2.getD k 0 - c) % 4294967296]) + val (l2.take (k + 1)) = val (l1.take (k + 1)) + 4294967296 ^ (k + 1) * brw (l1.getD k 0) (l2.getD k 0) c := by
  rw [val_snoc, hk, val_take_getD, val_take_getD]
  have e := brw_eq (l1.getD k 0) (l2.getD k 0) c (o1.getD k) (o2.getD k) hc
  have := congrArg (4294967296 ^ k * ·) e
  simp only [Nat.mul_add, ← Nat.mul_assoc] at this
  rw [Nat.pow_succ]
  omega
theorem sub_end {pre l1 l2 : List Nat} {n c : Nat} (ok : Ok pre) (hp : pre.length = n) (h1 : l1.length ≤ n) (h2 : l2.length ≤ n) (hle : val l2 ≤ val l1) (h : val pre + val (l2.take n) = val (l1.take n) + 4294967296 ^ n * c) : val pre = val l1 - val l2 ∧ c = 0 := by
  rw [val_take_all h1, val_take_all h2] at h
  have b := val_lt ok
  rw [hp] at b
  have hc : c = 0 := by
    rcases Nat.eq_zero_or_pos c with hc | hc
    · exact hc
    · have := Nat.mul_le_mul_left (4294967296 ^ n) hc
      omega
  subst hc
  exact ⟨by omega, rfl⟩
theorem val_set {l : List Nat} {k : Nat} (hk : k < l.length) (x : Nat) : val (l.set k x) + 4294967296 ^ k * l.getD k 0 = val l + 4294967296 ^ k * x := by
  induction l generalizing k with
  | nil => simp at hk
  | cons y l ih =>
    cases k with
    | zero => simp [val]; omega
    | succ k =>
      have := ih (k := k) (by simpa using hk)
      simp only [List.set_cons_succ, val, List.getD_cons_succ]
      have h2 := congrArg (4294967296 * ·) this
      simp only [Nat.mul_add, ← Nat.mul_assoc] at h2
      rw [Nat.pow_succ, Nat.mul_comm (4294967296 ^ k) 4294967296]
      omega
end Go.Proofs.Ytodigegjngnknaa.NL
namespace Go.Proofs.Ytodigegjngnknaa.NL
open Go
theorem limbs_prefix {l : List Nat} (h : Ok l) : l.take (limbs (val l)).length = limbs (val l) := by
  induction l with
  | nil => simp [val, limbs_zero]
  | cons x l ih =>
    by_cases h0 : val (x :: l) = 0
    · rw [h0, limbs_zero]; rfl
    · have hx := h.head
      rw [limbs_pos h0, val, show (x + 4294967296 * val l) % 4294967296 = x by omega, show (x + 4294967296 * val l) / 4294967296 = val l by omega, List.length_cons, List.take_succ_cons, ih h.tail]
end Go.Proofs.Ytodigegjngnknaa.NL
namespace Go.Proofs.Ytodigegjngnknaa.NL
open Go
theorem mul_carry {x y z c : Nat} (hx : x < 4294967296) (hy : y < 4294967296) (hz : z < 4294967296) (hc : c < 4294967296) : (x * y + z + c) / 4294967296 < 4294967296 := by
  have : x * y ≤ 4294967295 * 4294967295 := Nat.mul_le_mul (by omega) (by omega)
  omega
theorem mul_step {out l2 : List Nat} {k j c x V : Nat} (hj : k + j < out.length) (h : val out + 4294967296 ^ (k + j) * c = V + 4294967296 ^ k * (x * val (l2.take j))) :
    val (out.set (k + j) ((x * l2.getD j 0 + out.getD (k + j) 0 + c) % 4294967296)) + 4294967296 ^ (k + (j + 1)) * ((x * l2.getD j 0 + out.getD (k + j) 0 + c) / 4294967296) = V + 4294967296 ^ k * (x * val (l2.take (j + 1))) := by
  have s := val_set hj ((x * l2.getD j 0 + out.getD (k + j) 0 + c) % 4294967296)
  have p := pow_split (k + j) (x * l2.getD j 0 + out.getD (k + j) 0 + c)
  rw [Nat.mul_add _ (x * l2.getD j 0 + out.getD (k + j) 0), Nat.mul_add] at p
  rw [val_take_getD, Nat.mul_add x, Nat.mul_add (4294967296 ^ k), ← Nat.add_assoc k j 1]
  have e : 4294967296 ^ k * (x * (4294967296 ^ j * l2.getD j 0)) = 4294967296 ^ (k + j) * (x * l2.getD j 0) := by
    rw [Nat.pow_add]
    ac_rfl
  rw [e]
  generalize 4294967296 ^ (k + j + 1) * ((x * l2.getD j 0 + out.getD (k + j) 0 + c) / 4294967296) = a1 at *
  generalize val (out.set (k + j) ((x * l2.getD j 0 + out.getD (k + j) 0 + c) % 4294967296)) = a2 at *
  generalize 4294967296 ^ (k + j) * ((x * l2.getD j 0 + out.getD (k + j) 0 + c) % 4294967296) = a3 at *
  generalize 4294967296 ^ (k + j) * (x * l2.getD j 0) = a4 at *
  generalize 4294967296 ^ (k + j) * out.getD (k + j) 0 = a5 at *
  generalize 4294967296 ^ (k + j) * c = a6 at *
  generalize 4294967296 ^ k * (x * val (l2.take j)) = a7 at *
  omega
theorem mul_round {out l1 l2 : List Nat} {k c : Nat} (hk : k + l2.length < out.length) (hz : out.getD (k + l2.length) 0 = 0) (h : val out + 4294967296 ^ (k + l2.length) * c = val (l1.take k) * val l2 + 4294967296 ^ k * (l1.getD k 0 * val (l2.take l2.length))) :
    val (out.set (k + l2.length) c) = val (l1.take (k + 1)) * val l2 := by
  have s := val_set hk c
  rw [hz, Nat.mul_zero, Nat.add_zero] at s
  rw [s, h, val_take_getD, List.take_length, Nat.add_mul, Nat.mul_assoc]
theorem getD_set_ne {l : List Nat} {i j x : Nat} (h : i ≠ j) : (l.set i x).getD j 0 = l.getD j 0 := by
  rw [List.getD_eq_getElem?_getD, List.getD_eq_getElem?_getD, List.getElem?_set_ne h]
end Go.Proofs.Ytodigegjngnknaa.NL
namespace Go.Proofs.Ytodigegjngnknaa.DI
open Go
theorem sq_nn (x : Int) : 0 ≤ x * x := by
  rcases Int.le_total 0 x with h | h
  · exact Int.mul_nonneg h h
  · have := Int.mul_nonneg (Int.neg_nonneg_of_nonpos h) (Int.neg_nonneg_of_nonpos h); rwa [Int.neg_mul_neg] at this
/-- Cauchy and Schwarz -/
theorem cs (a b c x y z : Int) : (a * x + b * y + c * z) * (a * x + b * y + c * z) ≤ (a * a + b * b + c * c) * (x * x + y * y + z * z) := by
  have e : (a * a + b * b + c * c) * (x * x + y * y + z * z) - (a * x + b * y + c * z) * (a * x + b * y + c * z) = (a * y - b * x) * (a * y - b * x) + (a * z - c * x) * (a * z - c * x) + (b * z - c * y) * (b * z - c * y) := by grind
  have h1 := sq_nn (a * y - b * x)
  have h2 := sq_nn (a * z - c * x)
  have h3 := sq_nn (b * z - c * y)
  omega
theorem sq_lt {a b : Int} (h : a * a < b * b) (hb : 0 ≤ b) : a < b := by
  rcases Int.lt_or_le a b with g | g
  · exact g
  · have := Int.mul_le_mul g g hb (by omega)
    omega
theorem sq_le {a b : Int} (h : a * a ≤ b * b) (hb : 0 ≤ b) : a ≤ b := by
  rcases Int.lt_or_le b a with g | g
  · have h1 := Int.mul_le_mul (show b + 1 ≤ a by omega) (show b + 1 ≤ a by omega) (by omega) (by omega)
    have h2 : (b + 1) * (b + 1) = b * b + 2 * b + 1 := by grind
    omega
  · exact g
theorem sq_mono {a b : Int} (h : a ≤ b) (ha : 0 ≤ a) : a * a ≤ b * b := Int.mul_le_mul h h ha (by omega)
/-- THE TRIANGLE INEQUALITY of rounded ranges -/
theorem tri {a b c x y z r s t : Int} (hs0 : 0 ≤ s) (ht0 : 0 ≤ t) (hr0 : 0 ≤ r) (hr : r * r ≤ (a + x) * (a + x) + (b + y) * (b + y) + (c + z) * (c + z)) (hs : a * a + b * b + c * c < (s + 1) * (s + 1)) (ht : x * x + y * y + z * z < (t + 1) * (t + 1)) : r ≤ s + t + 1 := by
  have h := cs a b c x y z
  have n1 : 0 ≤ a * a + b * b + c * c := by have := sq_nn a; have := sq_nn b; have := sq_nn c; omega
  have n2 : 0 ≤ x * x + y * y + z * z := by have := sq_nn x; have := sq_nn y; have := sq_nn z; omega
  have e : (a + x) * (a + x) + (b + y) * (b + y) + (c + z) * (c + z) = (a * a + b * b + c * c) + (x * x + y * y + z * z) + 2 * (a * x + b * y + c * z) := by grind
  rw [e] at hr
  generalize a * a + b * b + c * c = A at *
  generalize x * x + y * y + z * z = B at *
  generalize a * x + b * y + c * z = D at *
  have h2 : D * D < ((s + 1) * (t + 1)) * ((s + 1) * (t + 1)) := by
    have k1 : A * B ≤ A * ((t + 1) * (t + 1)) := Int.mul_le_mul_of_nonneg_left (by omega) n1
    have k2 : A * ((t + 1) * (t + 1)) < ((s + 1) * (s + 1)) * ((t + 1) * (t + 1)) := Int.mul_lt_mul_of_pos_right hs (Int.mul_pos (by omega) (by omega))
    have k3 : ((s + 1) * (s + 1)) * ((t + 1) * (t + 1)) = ((s + 1) * (t + 1)) * ((s + 1) * (t + 1)) := by grind
    omega
  have h3 : D < (s + 1) * (t + 1) := sq_lt h2 (Int.mul_nonneg (by omega) (by omega))
  have h4 : r * r < (s + t + 2) * (s + t + 2) := by
    have : (s + t + 2) * (s + t + 2) = (s + 1) * (s + 1) + (t + 1) * (t + 1) + 2 * ((s + 1) * (t + 1)) := by grind
    omega
  have := sq_lt h4 (by omega)
  omega
/-- A point at most h away: its rounded range is at most h more -/
theorem far {a b c x y z r s h : Int} (hh : 0 ≤ h) (hs0 : 0 ≤ s) (hr : r * r ≤ (a + x) * (a + x) + (b + y) * (b + y) + (c + z) * (c + z)) (hs : a * a + b * b + c * c < (s + 1) * (s + 1)) (hx : x * x + y * y + z * z ≤ h * h) : r ≤ s + h := by
  have hc := cs a b c x y z
  have n1 : 0 ≤ a * a + b * b + c * c := by have := sq_nn a; have := sq_nn b; have := sq_nn c; omega
  have n2 : 0 ≤ x * x + y * y + z * z := by have := sq_nn x; have := sq_nn y; have := sq_nn z; omega
  have e : (a + x) * (a + x) + (b + y) * (b + y) + (c + z) * (c + z) = (a * a + b * b + c * c) + (x * x + y * y + z * z) + 2 * (a * x + b * y + c * z) := by grind
  rw [e] at hr
  generalize a * a + b * b + c * c = A at *
  generalize x * x + y * y + z * z = B at *
  generalize a * x + b * y + c * z = D at *
  have h2 : D * D ≤ ((s + 1) * h) * ((s + 1) * h) := by
    have k1 : A * B ≤ A * (h * h) := Int.mul_le_mul_of_nonneg_left hx n1
    have k2 : A * (h * h) ≤ ((s + 1) * (s + 1)) * (h * h) := Int.mul_le_mul_of_nonneg_right (by omega) (Int.mul_nonneg hh hh)
    have k3 : ((s + 1) * (s + 1)) * (h * h) = ((s + 1) * h) * ((s + 1) * h) := by grind
    omega
  have h3 : D ≤ (s + 1) * h := sq_le h2 (Int.mul_nonneg (by omega) hh)
  have h4 : r * r < (s + 1 + h) * (s + 1 + h) := by
    have : (s + 1 + h) * (s + 1 + h) = (s + 1) * (s + 1) + h * h + 2 * ((s + 1) * h) := by grind
    omega
  have := sq_lt h4 (by omega)
  omega
end Go.Proofs.Ytodigegjngnknaa.DI
namespace Go.Proofs.Ytodigegjngnknaa.DI
open Go
/-- a rounded part of a direction: t is the greatest with (2t-1)^2 D <= 2^62 a^2 -/
def IsPart (u a D : Int) : Prop := 0 ≤ u ∧ (u = 0 ∨ (2 * u - 1) * (2 * u - 1) * D ≤ 4611686018427387904 * (a * a)) ∧ 4611686018427387904 * (a * a) < (2 * u + 1) * (2 * u + 1) * D
theorem IsPart.uniq {u v a D : Int} (hD : 0 < D) (h : IsPart u a D) (h' : IsPart v a D) : u = v := by
  have key : ∀ {u v : Int}, IsPart u a D → IsPart v a D → ¬ u < v := by
    intro u v h h' g
    obtain ⟨h1, h2, h3⟩ := h
    obtain ⟨k1, k2, k3⟩ := h'
    rcases k2 with k2 | k2
    · omega
    · have := Int.mul_le_mul (show 2 * u + 1 ≤ 2 * v - 1 by omega) (show 2 * u + 1 ≤ 2 * v - 1 by omega) (by omega) (by omega)
      have := Int.mul_le_mul_of_nonneg_right this (Int.le_of_lt hD)
      omega
  have a1 := key h h'
  have a2 := key h' h
  omega
theorem IsPart.le {u a D : Int} (hD : 0 < D) (ha : a * a ≤ D) (h : IsPart u a D) : u ≤ 1073741824 := by
  obtain ⟨h1, h2, h3⟩ := h
  rcases h2 with h2 | h2
  · omega
  · rcases Int.lt_or_le 1073741824 u with g | g
    · have e1 := Int.mul_le_mul (show 2147483649 ≤ 2 * u - 1 by omega) (show 2147483649 ≤ 2 * u - 1 by omega) (by omega) (by omega)
      have e2 := Int.mul_le_mul_of_nonneg_right e1 (Int.le_of_lt hD)
      omega
    · exact g
theorem IsPart.lo {u a D : Int} (hD : 0 < D) (h : IsPart u a D) : 4 * (u * u * D) - 4 * (u * D) ≤ 4611686018427387904 * (a * a) := by
  obtain ⟨h1, h2, h3⟩ := h
  have := sq_nn a
  rcases h2 with h2 | h2
  · subst h2; simp; omega
  · have e : (2 * u - 1) * (2 * u - 1) * D = 4 * (u * u * D) - 4 * (u * D) + D := by grind
    omega
theorem IsPart.hi {u a D : Int} (h : IsPart u a D) : 4611686018427387904 * (a * a) < 4 * (u * u * D) + 4 * (u * D) + D := by
  obtain ⟨h1, h2, h3⟩ := h
  have e : (2 * u + 1) * (2 * u + 1) * D = 4 * (u * u * D) + 4 * (u * D) + D := by grind
  omega
theorem unit {a b c u v w D : Int} (hD : 0 < D) (hd : a * a + b * b + c * c = D) (hu : IsPart u a D) (hv : IsPart v b D) (hw : IsPart w c D) :
    u * u + v * v + w * w - 1152921504606846976 < 4294967296 ∧ -4294967296 < u * u + v * v + w * w - 1152921504606846976 := by
  have na := sq_nn a
  have nb := sq_nn b
  have nc := sq_nn c
  have l1 := hu.le hD (by omega)
  have l2 := hv.le hD (by omega)
  have l3 := hw.le hD (by omega)
  have g1 := hu.1
  have g2 := hv.1
  have g3 := hw.1
  have p1 := hu.lo hD
  have p2 := hv.lo hD
  have p3 := hw.lo hD
  have q1 := hu.hi
  have q2 := hv.hi
  have q3 := hw.hi
  obtain ⟨s, hs⟩ : ∃ s, u * u + v * v + w * w = s := ⟨_, rfl⟩
  obtain ⟨t, ht⟩ : ∃ t, u + v + w = t := ⟨_, rfl⟩
  have e1 : u * u * D + v * v * D + w * w * D = s * D := by rw [← hs]; grind
  have e2 : u * D + v * D + w * D = t * D := by rw [← ht]; grind
  rw [hs]
  have k1 : (s - t) * D ≤ 1152921504606846976 * D := by
    rw [Int.sub_mul]; omega
  have k2 : 4611686018427387904 * D < (4 * s + 4 * t + 3) * D := by
    have : (4 * s + 4 * t + 3) * D = 4 * (s * D) + 4 * (t * D) + 3 * D := by grind
    omega
  have k3 := Int.le_of_mul_le_mul_right k1 hD
  have k4 := Int.lt_of_mul_lt_mul_right k2 (Int.le_of_lt hD)
  omega
/-- the rounded part without its half, at least 0 -/
def cut (u : Int) : Int := if u = 0 then 0 else 2 * u - 1
theorem cut_sq {u a D : Int} (h : IsPart u a D) : cut u * cut u * D ≤ 4611686018427387904 * (a * a) ∧ 0 ≤ cut u ∧ 2 * u - 1 ≤ cut u := by
  obtain ⟨h1, h2, h3⟩ := h
  have := sq_nn a
  unfold cut
  split
  · simp; omega
  · rcases h2 with h2 | h2
    · omega
    · exact ⟨h2, by omega, by omega⟩
theorem part_up {u a D r : Int} (ha : 0 ≤ a) (hr : 0 ≤ r) (hD : D < (r + 1) * (r + 1)) (h : IsPart u a D) : 2147483648 * a ≤ (2 * u + 1) * (r + 1) := by
  obtain ⟨h1, h2, h3⟩ := h
  have k1 : (2 * u + 1) * (2 * u + 1) * D ≤ (2 * u + 1) * (2 * u + 1) * ((r + 1) * (r + 1)) := Int.mul_le_mul_of_nonneg_left (by omega) (Int.mul_nonneg (by omega) (by omega))
  have k2 : (2 * u + 1) * (2 * u + 1) * ((r + 1) * (r + 1)) = ((2 * u + 1) * (r + 1)) * ((2 * u + 1) * (r + 1)) := by grind
  have k3 : (2147483648 * a) * (2147483648 * a) = 4611686018427387904 * (a * a) := by grind
  exact sq_le (by omega) (Int.mul_nonneg (by omega) (by omega))
/-- GOING ALONG THE DIFFERENCE IS GOING THE RANGE: S is the sum of products, r the rounded range -/
theorem along_range {a b c u v w D r : Int} (ha : 0 ≤ a) (hb : 0 ≤ b) (hc : 0 ≤ c) (hD : 0 < D) (hd : a * a + b * b + c * c = D) (hu : IsPart u a D) (hv : IsPart v b D) (hw : IsPart w c D) (hr : 0 ≤ r) (h1 : r * r ≤ D) (h2 : D < (r + 1) * (r + 1)) :
    (u * a + v * b + w * c + 536870912) / 1073741824 ≤ r + (r / 1073741824 + 3) ∧ r - (r / 1073741824 + 3) ≤ (u * a + v * b + w * c + 536870912) / 1073741824 := by
  obtain ⟨cu, cu0, cu1⟩ := cut_sq hu
  obtain ⟨cv, cv0, cv1⟩ := cut_sq hv
  obtain ⟨cw, cw0, cw1⟩ := cut_sq hw
  have pu := part_up ha hr h2 hu
  have pv := part_up hb hr h2 hv
  have pw := part_up hc hr h2 hw
  obtain ⟨S, hS⟩ : ∃ S, u * a + v * b + w * c = S := ⟨_, rfl⟩
  obtain ⟨A, hA⟩ : ∃ A, a + b + c = A := ⟨_, rfl⟩
  have c3 := cs a b c 1 1 1
  have hA2 : A < 2 * (r + 1) := by
    have e : (a * 1 + b * 1 + c * 1) * (a * 1 + b * 1 + c * 1) = A * A := by rw [← hA]; grind
    rw [e, hd] at c3
    refine sq_lt ?_ (by omega)
    have e2 : (2 * (r + 1)) * (2 * (r + 1)) = 4 * ((r + 1) * (r + 1)) := by grind
    omega
  rw [hS]
  -- from above
  have up : 2 * S - A < 2147483648 * (r + 1) := by
    obtain ⟨x, hx⟩ : ∃ x, cut u = x := ⟨_, rfl⟩
    obtain ⟨y, hy⟩ : ∃ y, cut v = y := ⟨_, rfl⟩
    obtain ⟨z, hz⟩ : ∃ z, cut w = z := ⟨_, rfl⟩
    rw [hx] at cu cu0 cu1
    rw [hy] at cv cv0 cv1
    rw [hz] at cw cw0 cw1
    have k := cs x y z a b c
    rw [hd] at k
    have k2 : (x * x + y * y + z * z) * D ≤ 4611686018427387904 * D := by
      have : (x * x + y * y + z * z) * D = x * x * D + y * y * D + z * z * D := by grind
      omega
    have k3 : x * a + y * b + z * c < 2147483648 * (r + 1) := by
      refine sq_lt ?_ (by omega)
      have : (2147483648 * (r + 1)) * (2147483648 * (r + 1)) = 4611686018427387904 * ((r + 1) * (r + 1)) := by grind
      omega
    have m1 := Int.mul_le_mul_of_nonneg_right cu1 ha
    have m2 := Int.mul_le_mul_of_nonneg_right cv1 hb
    have m3 := Int.mul_le_mul_of_nonneg_right cw1 hc
    have e : (2 * u - 1) * a + (2 * v - 1) * b + (2 * w - 1) * c = 2 * S - A := by rw [← hS, ← hA]; grind
    omega
  -- from below
  have lo : 2147483648 * (r - 1) ≤ 2 * S + A := by
    have m1 := Int.mul_le_mul_of_nonneg_right pu ha
    have m2 := Int.mul_le_mul_of_nonneg_right pv hb
    have m3 := Int.mul_le_mul_of_nonneg_right pw hc
    have e1 : 2147483648 * a * a + 2147483648 * b * b + 2147483648 * c * c = 2147483648 * D := by rw [← hd]; grind
    have e2 : (2 * u + 1) * (r + 1) * a + (2 * v + 1) * (r + 1) * b + (2 * w + 1) * (r + 1) * c = (2 * S + A) * (r + 1) := by rw [← hS, ← hA]; grind
    rcases Int.lt_or_le (2 * S + A) (2147483648 * (r - 1)) with g | g
    · have g2 := Int.mul_lt_mul_of_pos_right g (show 0 < r + 1 by omega)
      have e3 : 2147483648 * (r - 1) * (r + 1) = 2147483648 * (r * r) - 2147483648 := by grind
      omega
    · exact g
  omega
end Go.Proofs.Ytodigegjngnknaa.DI
namespace Go.Proofs.Ytodigegjngnknaa.DI
open Go
theorem root_ex : ∀ n : Nat, ∃ r : Nat, r * r ≤ n ∧ n < (r + 1) * (r + 1)
  | 0 => ⟨0, by decide, by decide⟩
  | n + 1 => by
    obtain ⟨r, h1, h2⟩ := root_ex n
    by_cases h : (r + 1) * (r + 1) ≤ n + 1
    · refine ⟨r + 1, h, ?_⟩
      have e : (r + 1 + 1) * (r + 1 + 1) = (r + 1) * (r + 1) + 2 * r + 3 := by grind
      omega
    · exact ⟨r, by omega, by omega⟩
/-- a fine root of D: M times it, rounded down -/
theorem fine (D M : Int) (hD : 0 ≤ D) (hM : 0 ≤ M) : ∃ p : Int, 0 ≤ p ∧ p * p ≤ D * (M * M) ∧ D * (M * M) < (p + 1) * (p + 1) := by
  have h0 : 0 ≤ D * (M * M) := Int.mul_nonneg hD (Int.mul_nonneg hM hM)
  obtain ⟨n, hn⟩ := Int.eq_ofNat_of_zero_le h0
  obtain ⟨r, h1, h2⟩ := root_ex n
  refine ⟨r, by omega, ?_, ?_⟩
  · rw [hn]; exact_mod_cast h1
  · rw [hn]; exact_mod_cast h2
/-- signed part: what a product of a part by a step is off -/
theorem off_part {u a D M p : Int} (ha : 0 ≤ a) (hM : 0 ≤ M) (hp : 0 ≤ p) (hp1 : p * p ≤ D * (M * M)) (hp2 : D * (M * M) < (p + 1) * (p + 1)) (hu1 : u ≤ 1073741824) (h : IsPart u a D) :
    2 * u * p - p ≤ 2147483648 * a * M ∧ 2147483648 * a * M ≤ 2 * u * p + p + 2147483649 := by
  obtain ⟨g1, g2, g3⟩ := h
  have hm : 0 ≤ M * M := Int.mul_nonneg hM hM
  have hq : 0 ≤ 2147483648 * a * M := Int.mul_nonneg (by omega) hM
  have e1 : (2147483648 * a * M) * (2147483648 * a * M) = 4611686018427387904 * (a * a) * (M * M) := by grind
  constructor
  · rcases g2 with g2 | g2
    · subst g2; omega
    · rcases Int.lt_or_le 0 u with gu | gu
      · have k1 : (2 * u - 1) * (2 * u - 1) * D * (M * M) ≤ 4611686018427387904 * (a * a) * (M * M) := Int.mul_le_mul_of_nonneg_right g2 hm
        have k2 : ((2 * u - 1) * p) * ((2 * u - 1) * p) ≤ (2147483648 * a * M) * (2147483648 * a * M) := by
          have e2 : ((2 * u - 1) * p) * ((2 * u - 1) * p) = (2 * u - 1) * (2 * u - 1) * (p * p) := by grind
          have e3 : (2 * u - 1) * (2 * u - 1) * D * (M * M) = (2 * u - 1) * (2 * u - 1) * (D * (M * M)) := by grind
          have k3 : (2 * u - 1) * (2 * u - 1) * (p * p) ≤ (2 * u - 1) * (2 * u - 1) * (D * (M * M)) := Int.mul_le_mul_of_nonneg_left hp1 (sq_nn _)
          omega
        have k4 := sq_le k2 hq
        have e4 : (2 * u - 1) * p = 2 * u * p - p := by grind
        omega
      · have : u = 0 := by omega
        subst this; omega
  · have k1 : 4611686018427387904 * (a * a) * (M * M) ≤ (2 * u + 1) * (2 * u + 1) * D * (M * M) := Int.mul_le_mul_of_nonneg_right (by omega) hm
    have e3 : (2 * u + 1) * (2 * u + 1) * D * (M * M) = (2 * u + 1) * (2 * u + 1) * (D * (M * M)) := by grind
    have k3 : (2 * u + 1) * (2 * u + 1) * (D * (M * M)) ≤ (2 * u + 1) * (2 * u + 1) * ((p + 1) * (p + 1)) := Int.mul_le_mul_of_nonneg_left (by omega) (sq_nn _)
    have e2 : ((2 * u + 1) * (p + 1)) * ((2 * u + 1) * (p + 1)) = (2 * u + 1) * (2 * u + 1) * ((p + 1) * (p + 1)) := by grind
    have k4 : 2147483648 * a * M ≤ (2 * u + 1) * (p + 1) := sq_le (by omega) (Int.mul_nonneg (by omega) (by omega))
    have e4 : (2 * u + 1) * (p + 1) = 2 * u * p + p + 2 * u + 1 := by grind
    omega
def ab (x : Int) : Int := if x < 0 then -x else x
/-- a signed part of a direction -/
def IsDir (u a D : Int) : Prop := (0 ≤ a ∧ IsPart u a D) ∨ (a ≤ 0 ∧ IsPart (-u) (-a) D)
theorem mul_ab {x y k : Int} (h : x ≤ k ∧ -k ≤ x) : x * y ≤ k * ab y ∧ -(k * ab y) ≤ x * y := by
  unfold ab
  split
  · rename_i hy
    have h1 := Int.mul_le_mul_of_nonneg_right h.1 (show 0 ≤ -y by omega)
    have h2 := Int.mul_le_mul_of_nonneg_right h.2 (show 0 ≤ -y by omega)
    have e1 : x * -y = -(x * y) := by grind
    have e2 : -k * -y = -(k * -y) := by grind
    omega
  · rename_i hy
    have h1 := Int.mul_le_mul_of_nonneg_right h.1 (show 0 ≤ y by omega)
    have h2 := Int.mul_le_mul_of_nonneg_right h.2 (show 0 ≤ y by omega)
    have e2 : -k * y = -(k * y) := by grind
    omega
theorem off_dir {u a D M p : Int} (hD : 0 < D) (haD : a * a ≤ D) (hM : 0 ≤ M) (hp : 0 ≤ p) (hp1 : p * p ≤ D * (M * M)) (hp2 : D * (M * M) < (p + 1) * (p + 1)) (h : IsDir u a D) (v : Int) :
    2147483648 * M * (a * v) - 2 * p * (u * v) ≤ (p + 2147483649) * ab v ∧ -((p + 2147483649) * ab v) ≤ 2147483648 * M * (a * v) - 2 * p * (u * v) := by
  have k : 2147483648 * a * M - 2 * u * p ≤ p + 2147483649 ∧ -(p + 2147483649) ≤ 2147483648 * a * M - 2 * u * p := by
    rcases h with ⟨ha, h⟩ | ⟨ha, h⟩
    · have := off_part ha hM hp hp1 hp2 (h.le hD haD) h
      omega
    · have e : -a * -a = a * a := by grind
      have := off_part (show 0 ≤ -a by omega) hM hp hp1 hp2 (h.le hD (by omega)) h
      have e1 : 2147483648 * -a * M = -(2147483648 * a * M) := by grind
      have e2 : 2 * -u * p = -(2 * u * p) := by grind
      omega
  have := mul_ab (y := v) k
  have e : (2147483648 * a * M - 2 * u * p) * v = 2147483648 * M * (a * v) - 2 * p * (u * v) := by grind
  omega
/-- from above and below: P is the product of the difference and the step, W that of the direction and the step, B the sum of the step's sizes -/
theorem off_sum {a b c u v w x y z D M p : Int} (hD : 0 < D) (hd : a * a + b * b + c * c = D) (hM : 0 ≤ M) (hp : 0 ≤ p) (hp1 : p * p ≤ D * (M * M)) (hp2 : D * (M * M) < (p + 1) * (p + 1)) (hu : IsDir u a D) (hv : IsDir v b D) (hw : IsDir w c D) :
    2147483648 * M * (a * x + b * y + c * z) - 2 * p * (u * x + v * y + w * z) ≤ (p + 2147483649) * (ab x + ab y + ab z) ∧ -((p + 2147483649) * (ab x + ab y + ab z)) ≤ 2147483648 * M * (a * x + b * y + c * z) - 2 * p * (u * x + v * y + w * z) := by
  have na := sq_nn a
  have nb := sq_nn b
  have nc := sq_nn c
  have h1 := off_dir hD (by omega) hM hp hp1 hp2 hu x
  have h2 := off_dir hD (by omega) hM hp hp1 hp2 hv y
  have h3 := off_dir hD (by omega) hM hp hp1 hp2 hw z
  have e1 : 2147483648 * M * (a * x + b * y + c * z) = 2147483648 * M * (a * x) + 2147483648 * M * (b * y) + 2147483648 * M * (c * z) := by grind
  have e2 : 2 * p * (u * x + v * y + w * z) = 2 * p * (u * x) + 2 * p * (v * y) + 2 * p * (w * z) := by grind
  have e3 : (p + 2147483649) * (ab x + ab y + ab z) = (p + 2147483649) * ab x + (p + 2147483649) * ab y + (p + 2147483649) * ab z := by grind
  omega
/-- the lower bound: Y is the rounded range of the moved point, N its square -/
theorem lin_lo {D N P W B M p r y : Int} (hD : 0 < D) (hM : M = 2 ^ 100) (hp : 0 ≤ p) (hp1 : p * p ≤ D * (M * M)) (hp2 : D * (M * M) < (p + 1) * (p + 1)) (hr : 1 ≤ r) (hrD : r * r ≤ D)
    (hy0 : 0 ≤ y) (hy1 : y < 2 ^ 40) (hy : N < (y + 1) * (y + 1)) (hcs : (D - P) * (D - P) ≤ D * N) (hB0 : 0 ≤ B) (hB1 : B < 2 ^ 45) (hoff : 2147483648 * M * P - 2 * p * W ≤ (p + 2147483649) * B) :
    0 ≤ 2147483648 * (y + 1) - 2147483648 * r + 2 * W + B := by
  have hM0 : 0 < M := by rw [hM]; decide
  have hm : 0 < M * M := Int.mul_pos hM0 hM0
  have hpr : r * M ≤ p := by
    have k1 : (r * M) * (r * M) = r * r * (M * M) := by grind
    have k2 := Int.mul_le_mul_of_nonneg_right hrD (Int.le_of_lt hm)
    have k3 : (r * M) < p + 1 := sq_lt (by omega) (by omega)
    omega
  have hpM : M ≤ p := by
    have := Int.mul_le_mul_of_nonneg_right hr (Int.le_of_lt hM0)
    omega
  have h1 : (D - P) * M < (y + 1) * (p + 1) := by
    refine sq_lt ?_ (Int.mul_nonneg (by omega) (by omega))
    have e1 : (D - P) * M * ((D - P) * M) = (D - P) * (D - P) * (M * M) := by grind
    have e2 : (y + 1) * (p + 1) * ((y + 1) * (p + 1)) = (y + 1) * (y + 1) * ((p + 1) * (p + 1)) := by grind
    have k1 := Int.mul_le_mul_of_nonneg_right hcs (Int.le_of_lt hm)
    have k2 : D * N ≤ D * ((y + 1) * (y + 1)) := Int.mul_le_mul_of_nonneg_left (by omega) (by omega)
    have k3 := Int.mul_le_mul_of_nonneg_right k2 (Int.le_of_lt hm)
    have e3 : D * ((y + 1) * (y + 1)) * (M * M) = (y + 1) * (y + 1) * (D * (M * M)) := by grind
    have k4 : (y + 1) * (y + 1) * (D * (M * M)) < (y + 1) * (y + 1) * ((p + 1) * (p + 1)) := Int.mul_lt_mul_of_pos_left hp2 (Int.mul_pos (by omega) (by omega))
    omega
  -- times 2^31 M
  have h2 : 2147483648 * M * ((D - P) * M) ≤ 2147483648 * M * ((y + 1) * (p + 1)) := Int.mul_le_mul_of_nonneg_left (Int.le_of_lt h1) (by omega)
  have h3 := Int.mul_le_mul_of_nonneg_right hoff (Int.le_of_lt hM0)
  obtain ⟨E, hE⟩ : ∃ E, 2147483648 * M * (y + 1) - 2147483648 * p + 2 * M * W + M * B = E := ⟨_, rfl⟩
  have h4 : -(2147483648 * M * (y + 1) + 2147483649 * M * B) ≤ p * E := by
    have e1 : p * E = 2147483648 * M * (y + 1) * p - 2147483648 * (p * p) + 2 * M * W * p + M * B * p := by rw [← hE]; grind
    have e2 : 2147483648 * M * ((D - P) * M) = 2147483648 * (D * (M * M)) - 2147483648 * M * P * M := by grind
    have e3 : 2147483648 * M * ((y + 1) * (p + 1)) = 2147483648 * M * (y + 1) * p + 2147483648 * M * (y + 1) := by grind
    have e4 : (2147483648 * M * P - 2 * p * W) * M = 2147483648 * M * P * M - 2 * M * W * p := by grind
    have e5 : (p + 2147483649) * B * M = M * B * p + 2147483649 * M * B := by grind
    rw [e4, e5] at h3
    rw [e2, e3] at h2
    omega
  have h5 : -M < E := by
    rcases Int.lt_or_le (-M) E with g | g
    · exact g
    · have k1 : p * E ≤ p * -M := Int.mul_le_mul_of_nonneg_left g hp
      have k2 : M * (2147483648 * (y + 1) + 2147483649 * B) < M * p := by
        refine Int.mul_lt_mul_of_pos_left ?_ hM0
        rw [hM] at hpM
        omega
      have e1 : M * (2147483648 * (y + 1) + 2147483649 * B) = 2147483648 * M * (y + 1) + 2147483649 * M * B := by grind
      have e2 : p * -M = -(M * p) := by grind
      omega
  have h6 : M * (-1) < M * (2147483648 * (y + 1) - 2147483648 * r + 2 * W + B) := by
    have e1 : M * (2147483648 * (y + 1) - 2147483648 * r + 2 * W + B) = 2147483648 * M * (y + 1) - 2147483648 * (r * M) + 2 * M * W + M * B := by grind
    omega
  have := Int.lt_of_mul_lt_mul_left h6 (Int.le_of_lt hM0)
  omega
/-- the middle of the upper bound -/
theorem mid {D N P h c r y V : Int} (hD : 0 < D) (hr : 0 ≤ r) (hrD : r * r ≤ D) (hh : 0 ≤ h) (hhr : h < r) (hP : P * P ≤ D * (h * h)) (hN : N = D - 2 * P + V) (hV : V ≤ h * h) (hy0 : 0 ≤ y) (hy : y * y ≤ N) (hc : h * h ≤ 2 * (r - h) * c) (hc0 : 0 ≤ c) :
    0 < D - P ∧ (y ≤ c ∨ (y - c) * (y - c) * D ≤ (D - P) * (D - P)) := by
  have hPD : P < D := by
    refine sq_lt ?_ (by omega)
    have k1 : h * h < r * r := by
      have := Int.mul_le_mul (show h + 1 ≤ r by omega) (show h + 1 ≤ r by omega) (by omega) (by omega)
      have e : (h + 1) * (h + 1) = h * h + 2 * h + 1 := by grind
      omega
    have k2 : D * (h * h) < D * D := Int.mul_lt_mul_of_pos_left (by omega) hD
    omega
  refine ⟨by omega, ?_⟩
  rcases Int.lt_or_le c y with g | g
  · right
    obtain ⟨e, he⟩ : ∃ e, y - c = e := ⟨_, rfl⟩
    obtain ⟨t, ht⟩ : ∃ t, D - P = t := ⟨_, rfl⟩
    rw [he, ht]
    rcases Int.lt_or_le (t * t) (e * e * D) with q | q
    · exfalso
      -- e is at least r - h + 1
      have big : r < e + h := by
        rcases Int.lt_or_le r (e + h) with w | w
        · exact w
        · exfalso
          have k1 : t * P ≤ e * h * D := by
            refine sq_le ?_ (Int.mul_nonneg (Int.mul_nonneg (by omega) hh) (by omega))
            have e1 : t * P * (t * P) = (t * t) * (P * P) := by grind
            have e2 : e * h * D * (e * h * D) = (e * e * D) * (D * (h * h)) := by grind
            have k2 : (t * t) * (P * P) ≤ (e * e * D) * (P * P) := Int.mul_le_mul_of_nonneg_right (Int.le_of_lt q) (sq_nn _)
            have k3 : (e * e * D) * (P * P) ≤ (e * e * D) * (D * (h * h)) := Int.mul_le_mul_of_nonneg_left hP (Int.mul_nonneg (sq_nn _) (by omega))
            omega
          have k4 : D * D < (e + h) * (e + h) * D := by
            have e1 : (e + h) * (e + h) * D = e * e * D + 2 * (e * h * D) + D * (h * h) := by grind
            have e2 : D * D = t * t + 2 * (t * P) + P * P := by rw [← ht]; grind
            omega
          have k5 := Int.lt_of_mul_lt_mul_right k4 (by omega)
          have k6 := sq_mono w (by omega)
          omega
      have k1 : 2 * (r - h) * c ≤ 2 * e * c := Int.mul_le_mul_of_nonneg_right (by omega) hc0
      have k2 : y * y * D ≤ N * D := Int.mul_le_mul_of_nonneg_right hy (by omega)
      have e1 : y * y * D = e * e * D + (2 * e * c) * D + c * c * D := by
        have : y = e + c := by omega
        rw [this]; grind
      have e2 : N * D = t * t - P * P + V * D := by
        rw [hN, ← ht]; grind
      have k3 : V * D ≤ (2 * e * c) * D := Int.mul_le_mul_of_nonneg_right (by omega) (by omega)
      have k4 : 0 ≤ c * c * D := Int.mul_nonneg (sq_nn _) (by omega)
      have k5 := sq_nn P
      omega
    · exact q
  · exact .inl g
/-- the upper bound -/
theorem lin_hi {D P W B M p r y c : Int} (hD : 0 < D) (hM : M = 2 ^ 100) (hp : 0 ≤ p) (hp1 : p * p ≤ D * (M * M)) (hp2 : D * (M * M) < (p + 1) * (p + 1)) (hr : 1 ≤ r) (hrD : r * r ≤ D) (hrD2 : D < (r + 1) * (r + 1))
    (hm : 0 < D - P ∧ (y ≤ c ∨ (y - c) * (y - c) * D ≤ (D - P) * (D - P))) (hB0 : 0 ≤ B) (hB1 : B < 2 ^ 45) (hoff : -((p + 2147483649) * B) ≤ 2147483648 * M * P - 2 * p * W) :
    2147483648 * (y - c) + 2 * W - B ≤ 2147483648 * (r + 1) + 1 := by
  have hM0 : 0 < M := by rw [hM]; decide
  have hm2 : 0 < M * M := Int.mul_pos hM0 hM0
  have hpr : r * M ≤ p := by
    have k1 : (r * M) * (r * M) = r * r * (M * M) := by grind
    have k2 := Int.mul_le_mul_of_nonneg_right hrD (Int.le_of_lt hm2)
    have k3 : (r * M) < p + 1 := sq_lt (by omega) (by omega)
    omega
  have hpM : M ≤ p := by
    have := Int.mul_le_mul_of_nonneg_right hr (Int.le_of_lt hM0)
    omega
  have hpr2 : p < (r + 1) * M := by
    have k1 : ((r + 1) * M) * ((r + 1) * M) = (r + 1) * (r + 1) * (M * M) := by grind
    have k2 := Int.mul_lt_mul_of_pos_right hrD2 hm2
    exact sq_lt (by omega) (Int.mul_nonneg (by omega) (by omega))
  obtain ⟨q0, q1⟩ := hm
  have h1 : (y - c) * p ≤ (D - P) * M := by
    have n1 : 0 ≤ (D - P) * M := Int.mul_nonneg (by omega) (by omega)
    rcases q1 with q1 | q1
    · have : (y - c) * p ≤ 0 := Int.mul_nonpos_of_nonpos_of_nonneg (by omega) hp
      omega
    · refine sq_le ?_ n1
      have e1 : (y - c) * p * ((y - c) * p) = (y - c) * (y - c) * (p * p) := by grind
      have e2 : (D - P) * M * ((D - P) * M) = (D - P) * (D - P) * (M * M) := by grind
      have k1 : (y - c) * (y - c) * (p * p) ≤ (y - c) * (y - c) * (D * (M * M)) := Int.mul_le_mul_of_nonneg_left hp1 (sq_nn _)
      have e3 : (y - c) * (y - c) * (D * (M * M)) = (y - c) * (y - c) * D * (M * M) := by grind
      have k2 := Int.mul_le_mul_of_nonneg_right q1 (Int.le_of_lt hm2)
      omega
  have h2 : 2147483648 * M * ((y - c) * p) ≤ 2147483648 * M * ((D - P) * M) := Int.mul_le_mul_of_nonneg_left h1 (by omega)
  have h3 := Int.mul_le_mul_of_nonneg_right hoff (Int.le_of_lt hM0)
  obtain ⟨E, hE⟩ : ∃ E, 2147483648 * M * (y - c) - 2147483648 * p - 4294967296 + 2 * M * W - M * B = E := ⟨_, rfl⟩
  have h4 : p * E ≤ 2147483648 + 2147483649 * M * B := by
    have e1 : p * E = 2147483648 * M * ((y - c) * p) - 2147483648 * (p * p) - 4294967296 * p + 2 * M * W * p - M * B * p := by rw [← hE]; grind
    have e2 : 2147483648 * M * ((D - P) * M) = 2147483648 * (D * (M * M)) - 2147483648 * M * P * M := by grind
    have e4 : (2147483648 * M * P - 2 * p * W) * M = 2147483648 * M * P * M - 2 * M * W * p := by grind
    have e5 : -((p + 2147483649) * B) * M = -(M * B * p) - 2147483649 * M * B := by grind
    have e6 : (p + 1) * (p + 1) = p * p + 2 * p + 1 := by grind
    rw [e4, e5] at h3
    rw [e2] at h2
    rw [e6] at hp2
    omega
  have h5 : E < M := by
    rcases Int.lt_or_le E M with g | g
    · exact g
    · exfalso
      have k1 : p * M ≤ p * E := Int.mul_le_mul_of_nonneg_left g hp
      have k2 : M * (1 + 2147483649 * B) < M * p := by
        refine Int.mul_lt_mul_of_pos_left ?_ hM0
        rw [hM] at hpM
        omega
      have e1 : M * (1 + 2147483649 * B) = M + 2147483649 * M * B := by grind
      have e2 : p * M = M * p := by grind
      have k3 : 2147483648 ≤ M := by rw [hM]; decide
      omega
  have h6 : M * (2147483648 * (y - c) + 2 * W - B) < M * (2147483648 * (r + 1) + 2) := by
    have e1 : M * (2147483648 * (y - c) + 2 * W - B) = 2147483648 * M * (y - c) + 2 * M * W - M * B := by grind
    have e2 : M * (2147483648 * (r + 1) + 2) = 2147483648 * ((r + 1) * M) + 2 * M := by grind
    have k3 : 4294967296 ≤ M := by rw [hM]; decide
    omega
  have := Int.lt_of_mul_lt_mul_left h6 (Int.le_of_lt hM0)
  omega
end Go.Proofs.Ytodigegjngnknaa.DI
namespace Go.Proofs.Ytodigegjngnknaa.DI
open Go
/-- a sum of products, divided by 2^30 and rounded, halves away from 0 -/
def rnd (S : Int) : Int := if S < 0 then -((-S + 536870912) / 1073741824) else (S + 536870912) / 1073741824
theorem rnd_split (S W R : Int) (h : S = 1073741824 * W + R) (h0 : 0 ≤ R) (h1 : R < 1073741824) : rnd S = if 536870912 < R ∨ (R = 536870912 ∧ 0 ≤ W) then W + 1 else W := by
  unfold rnd
  split <;> split <;> omega
theorem rnd_off (S : Int) : 2147483648 * rnd S - 1073741824 ≤ 2 * S ∧ 2 * S ≤ 2147483648 * rnd S + 1073741824 := by
  unfold rnd
  split <;> omega
theorem rnd_neg (S : Int) : rnd (-S) = -rnd S := by
  unfold rnd
  split <;> split <;> omega
theorem ab_le {x k : Int} (h : -k ≤ x ∧ x ≤ k) : ab x ≤ k ∧ 0 ≤ ab x := by
  unfold ab
  split <;> omega
/-- THE THEOREM OF THE STAGE -/
theorem linear {a b c u v w x y z D r Y k d : Int} (hD : 0 < D) (hd : a * a + b * b + c * c = D) (hu : IsDir u a D) (hv : IsDir v b D) (hw : IsDir w c D)
    (hr : 2 ≤ r) (hrD : r * r ≤ D) (hrD2 : D < (r + 1) * (r + 1)) (hd0 : 0 ≤ d) (hdr : 2 * d < r) (hd9 : d < 2 ^ 40)
    (hx : -d ≤ x ∧ x ≤ d) (hy : -d ≤ y ∧ y ≤ d) (hz : -d ≤ z ∧ z ≤ d)
    (hY0 : 0 ≤ Y) (hY9 : Y < 2 ^ 40) (hY : Y * Y ≤ (a - x) * (a - x) + (b - y) * (b - y) + (c - z) * (c - z)) (hY2 : (a - x) * (a - x) + (b - y) * (b - y) + (c - z) * (c - z) < (Y + 1) * (Y + 1))
    (hk : (2 * d) * (2 * d) ≤ 2 * (r - 2 * d) * k) (hk0 : 0 ≤ k) :
    Y - (r - rnd (u * x + v * y + w * z)) ≤ k + ((2 * d + 1073741823) / 1073741824 + 1 + 2) ∧ -(Y - (r - rnd (u * x + v * y + w * z))) ≤ k + ((2 * d + 1073741823) / 1073741824 + 1 + 2) := by
  obtain ⟨M, hM⟩ : ∃ M : Int, M = 2 ^ 100 := ⟨_, rfl⟩
  have hM0 : 0 ≤ M := by rw [hM]; decide
  obtain ⟨p, hp, hp1, hp2⟩ := fine D M (by omega) hM0
  have hoff := off_sum (x := x) (y := y) (z := z) hD hd hM0 hp hp1 hp2 hu hv hw
  have B1 := ab_le hx
  have B2 := ab_le hy
  have B3 := ab_le hz
  have hcs := cs a b c (a - x) (b - y) (c - z)
  have hcs2 := cs a b c x y z
  rw [hd] at hcs hcs2
  have e1 : a * (a - x) + b * (b - y) + c * (c - z) = D - (a * x + b * y + c * z) := by rw [← hd]; grind
  rw [e1] at hcs
  have e2 : (a - x) * (a - x) + (b - y) * (b - y) + (c - z) * (c - z) = D - 2 * (a * x + b * y + c * z) + (x * x + y * y + z * z) := by rw [← hd]; grind
  have hV : x * x + y * y + z * z ≤ (2 * d) * (2 * d) := by
    have s : ∀ t : Int, -d ≤ t ∧ t ≤ d → t * t ≤ d * d := by
      intro t ht
      rcases Int.le_total 0 t with g | g
      · exact sq_mono ht.2 g
      · have := sq_mono (show -t ≤ d by omega) (by omega)
        have e : -t * -t = t * t := by grind
        omega
    have := s x hx
    have := s y hy
    have := s z hz
    have e : (2 * d) * (2 * d) = 4 * (d * d) := by grind
    have := sq_nn d
    omega
  have hP : (a * x + b * y + c * z) * (a * x + b * y + c * z) ≤ D * ((2 * d) * (2 * d)) := by
    have := Int.mul_le_mul_of_nonneg_left hV (show 0 ≤ D by omega)
    omega
  obtain ⟨P, hPe⟩ : ∃ P, a * x + b * y + c * z = P := ⟨_, rfl⟩
  obtain ⟨W, hWe⟩ : ∃ W, u * x + v * y + w * z = W := ⟨_, rfl⟩
  obtain ⟨V, hVe⟩ : ∃ V, x * x + y * y + z * z = V := ⟨_, rfl⟩
  obtain ⟨B, hBe⟩ : ∃ B, ab x + ab y + ab z = B := ⟨_, rfl⟩
  obtain ⟨N, hNe⟩ : ∃ N, (a - x) * (a - x) + (b - y) * (b - y) + (c - z) * (c - z) = N := ⟨_, rfl⟩
  rw [hPe, hWe, hBe] at hoff
  rw [hPe, hNe] at hcs
  rw [hPe, hVe, hNe] at e2
  rw [hPe] at hP
  rw [hVe] at hV
  rw [hNe] at hY hY2
  rw [hWe]
  have hB0 : 0 ≤ B := by omega
  have hB9 : B ≤ 3 * d := by omega
  have hB1 : B < 2 ^ 45 := by omega
  have l1 := lin_lo hD hM hp hp1 hp2 (by omega) hrD hY0 hY9 hY2 hcs hB0 hB1 hoff.1
  have m := mid hD (by omega) hrD (show 0 ≤ 2 * d by omega) hdr hP e2 hV hY0 hY hk hk0
  have l2 := lin_hi hD hM hp hp1 hp2 (by omega) hrD hrD2 m hB0 hB1 hoff.2
  have := rnd_off W
  omega
end Go.Proofs.Ytodigegjngnknaa.DI
namespace Go.Proofs.Ytodigegjngnknaa.DI
open Go
/-- the root of a number, from the top bit on -/
def isq : Nat → Nat → Nat → Nat
  | 0, r, _ => r
  | e + 1, r, n => if (r + 2 ^ e) * (r + 2 ^ e) ≤ n then isq e (r + 2 ^ e) n else isq e r n
def gapOk (k : Nat) : Bool :=
  let T := 18446744073709551616 * (k + 1)
  let s := isq 40 0 (T - 1)
  decide (s * s ≤ T - 2 * (k + 1)) && decide (T ≤ (s + 1) * (s + 1))
theorem gaps : (List.range 8700).all gapOk = true := by decide +kernel
theorem no_gap {h k : Nat} (hk : 1 ≤ k) (hk2 : k ≤ 8700) : ¬ (18446744073709551616 * k - 2 * k < h * h ∧ h * h < 18446744073709551616 * k) := by
  rintro ⟨h1, h2⟩
  have g := List.all_eq_true.1 gaps (k - 1) (List.mem_range.2 (by omega))
  unfold gapOk at g
  simp only [Bool.and_eq_true, decide_eq_true_eq] at g
  rw [show k - 1 + 1 = k by omega] at g
  generalize isq 40 0 (18446744073709551616 * k - 1) = s at *
  obtain ⟨g1, g2⟩ := g
  rcases Nat.lt_or_ge s h with q | q
  · have := Nat.mul_le_mul (Nat.succ_le_of_lt q) (Nat.succ_le_of_lt q)
    have e : s.succ * s.succ = (s + 1) * (s + 1) := rfl
    omega
  · have := Nat.mul_le_mul q q
    omega
/-- rounding up: by quotient and rest -/
theorem ceil_eq (a k : Nat) (hk : 0 < k) : (a + (k - 1)) / k = a / k + (if a % k = 0 then 0 else 1) := by
  have h := Nat.div_add_mod a k
  have hm := Nat.mod_lt a hk
  split
  · rename_i h0
    rw [h0] at h
    have : a + (k - 1) = (k - 1) + k * (a / k) := by omega
    rw [this, Nat.add_mul_div_left _ _ hk, Nat.div_eq_of_lt (by omega)]
    omega
  · rename_i h0
    have : a + (k - 1) = (a % k - 1) + k * (a / k + 1) := by rw [Nat.mul_add]; omega
    rw [this, Nat.add_mul_div_left _ _ hk, Nat.div_eq_of_lt (by omega)]
    omega
/-- at the greatest int the quotient of a square leaves no rest -/
theorem no_top {h k : Nat} (hk : 1 ≤ k) (hh : h ≤ 400000000000) (hq : h * h / (2 * k) = 9223372036854775807) : h * h % (2 * k) = 0 := by
  have e := Nat.div_add_mod (h * h) (2 * k)
  rw [hq] at e
  have hm := Nat.mod_lt (h * h) (show 0 < 2 * k by omega)
  have hb := Nat.mul_le_mul hh hh
  rcases Nat.eq_zero_or_pos (h * h % (2 * k)) with g | g
  · exact g
  · exact absurd ⟨by omega, by omega⟩ (no_gap (h := h) hk (by omega))
end Go.Proofs.Ytodigegjngnknaa.DI
