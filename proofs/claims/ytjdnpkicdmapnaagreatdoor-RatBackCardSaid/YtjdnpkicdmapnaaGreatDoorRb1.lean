/- Plain facts and contracts of functions of the program, out of walks. Their conditions stand ahead of each. -/

set_option linter.unusedVariables false
set_option linter.unusedSimpArgs false
namespace Go.Proofs.YtjdnpkicdmapnaaGreatDoor.NL
open Go
/-- the number that limbs stand for -/
def val : List Nat → Nat
  | [] => 0
  | x :: l => x + 4294967296 * val l
/-- all limbs are less than 2^32 -/
def Ok (l : List Nat) : Prop := ∀ x ∈ l, x < 4294967296
theorem Ok.nil : Ok [] := by intro x h; cases h
theorem Ok.cons {x : Nat} {l : List Nat} (hx : x < 4294967296) (h : Ok l) : Ok (x :: l) := by
  intro y hy; rcases List.mem_cons.1 hy with rfl | hy; exact hx; exact h y hy
theorem Ok.head {x : Nat} {l : List Nat} (h : Ok (x :: l)) : x < 4294967296 := h x (List.mem_cons_self ..)
theorem Ok.tail {x : Nat} {l : List Nat} (h : Ok (x :: l)) : Ok l := fun y hy => h y (List.mem_cons_of_mem _ hy)
theorem Ok.append {l m : List Nat} (h : Ok l) (k : Ok m) : Ok (l ++ m) := by
  intro x hx; rcases List.mem_append.1 hx with hx | hx; exact h x hx; exact k x hx
theorem Ok.left {l m : List Nat} (h : Ok (l ++ m)) : Ok l := fun x hx => h x (List.mem_append_left _ hx)
theorem Ok.right {l m : List Nat} (h : Ok (l ++ m)) : Ok m := fun x hx => h x (List.mem_append_right _ hx)
theorem Ok.take {l : List Nat} (h : Ok l) (k : Nat) : Ok (l.take k) := fun x hx => h x (List.mem_of_mem_take hx)
theorem Ok.drop {l : List Nat} (h : Ok l) (k : Nat) : Ok (l.drop k) := fun x hx => h x (List.mem_of_mem_drop hx)
theorem Ok.get {l : List Nat} (h : Ok l) {k : Nat} (hk : k < l.length) : l[k] < 4294967296 := h _ (List.getElem_mem hk)
theorem Ok.getD {l : List Nat} (h : Ok l) (k : Nat) : l.getD k 0 < 4294967296 := by
  rw [List.getD_eq_getElem?_getD]
  rcases Nat.lt_or_ge k l.length with hk | hk
  · rw [List.getElem?_eq_getElem hk]; exact h.get hk
  · rw [List.getElem?_eq_none hk]; decide
theorem Ok.set {l : List Nat} (h : Ok l) (k : Nat) {x : Nat} (hx : x < 4294967296) : Ok (l.set k x) := by
  intro y hy
  rcases List.mem_or_eq_of_mem_set hy with hy | rfl
  · exact h y hy
  · exact hx
theorem Ok.zeros (n : Nat) : Ok (List.replicate n 0) := by intro x hx; rw [(List.mem_replicate.1 hx).2]; decide
theorem val_append (l m : List Nat) : val (l ++ m) = val l + 4294967296 ^ l.length * val m := by
  induction l with
  | nil => simp [val]
  | cons x l ih =>
    rw [List.cons_append, val, val, ih, List.length_cons, Nat.pow_succ, Nat.mul_add, ← Nat.mul_assoc, Nat.mul_comm 4294967296 (4294967296 ^ l.length), Nat.add_assoc]
theorem val_single (x : Nat) : val [x] = x := by simp [val]
theorem val_snoc (l : List Nat) (x : Nat) : val (l ++ [x]) = val l + 4294967296 ^ l.length * x := by rw [val_append, val_single]
theorem val_zeros (n : Nat) : val (List.replicate n 0) = 0 := by
  induction n with
  | zero => rfl
  | succ n ih => rw [List.replicate_succ, val, ih]
theorem val_lt : ∀ {l : List Nat}, Ok l → val l < 4294967296 ^ l.length := by
  intro l
  induction l with
  | nil => intro _; simp [val]
  | cons x l ih =>
    intro h
    have h1 := ih h.tail
    have h2 := h.head
    rw [val, List.length_cons, Nat.pow_succ, Nat.mul_comm]
    have : val l * 4294967296 + 4294967296 ≤ 4294967296 ^ l.length * 4294967296 := by
      have := Nat.mul_le_mul_right 4294967296 (Nat.succ_le_of_lt h1)
      rw [Nat.succ_mul] at this
      exact this
    omega
theorem take_succ {l : List Nat} {k : Nat} (hk : k < l.length) : l.take (k + 1) = l.take k ++ [l[k]] := by rw [List.take_succ_eq_append_getElem hk]
theorem val_take_succ {l : List Nat} {k : Nat} (hk : k < l.length) : val (l.take (k + 1)) = val (l.take k) + 4294967296 ^ k * l[k] := by
  rw [take_succ hk, val_snoc, List.length_take, Nat.min_eq_left (by omega)]
theorem val_take_getD (l : List Nat) (k : Nat) : val (l.take (k + 1)) = val (l.take k) + 4294967296 ^ k * l.getD k 0 := by
  rcases Nat.lt_or_ge k l.length with hk | hk
  · rw [val_take_succ hk, List.getD_eq_getElem?_getD, List.getElem?_eq_getElem hk]; rfl
  · rw [List.getD_eq_getElem?_getD, List.getElem?_eq_none hk, List.take_of_length_le (by omega), List.take_of_length_le hk]; simp
theorem val_take_all {l : List Nat} {k : Nat} (hk : l.length ≤ k) : val (l.take k) = val l := by rw [List.take_of_length_le hk]
theorem val_split (l : List Nat) (k : Nat) (hk : k ≤ l.length) : val l = val (l.take k) + 4294967296 ^ k * val (l.drop k) := by
  have h := val_append (l.take k) (l.drop k)
  rw [List.take_append_drop, List.length_take, Nat.min_eq_left hk] at h
  exact h
theorem val_drop_getD (l : List Nat) (k : Nat) : val (l.drop k) = l.getD k 0 + 4294967296 * val (l.drop (k + 1)) := by
  rcases Nat.lt_or_ge k l.length with hk | hk
  · rw [List.drop_eq_getElem_cons hk, val, List.getD_eq_getElem?_getD, List.getElem?_eq_getElem hk]; rfl
  · rw [List.drop_of_length_le hk, List.drop_of_length_le (by omega), List.getD_eq_getElem?_getD, List.getElem?_eq_none hk]; rfl
/-- the limbs of a number, none of them behind the last one that is not 0 -/
def limbs (n : Nat) : List Nat := if h : n = 0 then [] else n % 4294967296 :: limbs (n / 4294967296)
termination_by n
decreasing_by exact Nat.div_lt_self (Nat.pos_of_ne_zero h) (by decide)
theorem limbs_zero : limbs 0 = [] := by rw [limbs]; rfl
theorem limbs_pos {n : Nat} (h : n ≠ 0) : limbs n = n % 4294967296 :: limbs (n / 4294967296) := by rw [limbs, dif_neg h]
theorem val_limbs (n : Nat) : val (limbs n) = n := by
  induction n using Nat.strongRecOn with
  | ind n ih =>
    by_cases h : n = 0
    · subst h; rw [limbs_zero]; rfl
    · rw [limbs_pos h, val, ih _ (Nat.div_lt_self (Nat.pos_of_ne_zero h) (by decide))]; omega
theorem ok_limbs (n : Nat) : Ok (limbs n) := by
  induction n using Nat.strongRecOn with
  | ind n ih =>
    by_cases h : n = 0
    · subst h; rw [limbs_zero]; exact Ok.nil
    · rw [limbs_pos h]; exact Ok.cons (Nat.mod_lt _ (by decide)) (ih _ (Nat.div_lt_self (Nat.pos_of_ne_zero h) (by decide)))
theorem limbs_nil {n : Nat} : limbs n = [] ↔ n = 0 := by
  constructor
  · intro h
    have := val_limbs n
    rw [h] at this
    exact this.symm
  · rintro rfl; exact limbs_zero
theorem limbs_inj {m n : Nat} (h : limbs m = limbs n) : m = n := by rw [← val_limbs m, h, val_limbs]
/-- the last limb is not 0 -/
def Trim (l : List Nat) : Prop := ∀ k, l.length = k + 1 → l.getD k 0 ≠ 0
theorem Trim.nil : Trim [] := by intro k hk; cases hk
theorem trim_limbs (n : Nat) : Trim (limbs n) := by
  induction n using Nat.strongRecOn with
  | ind n ih =>
    by_cases h : n = 0
    · subst h; rw [limbs_zero]; exact Trim.nil
    · rw [limbs_pos h]
      have h1 := ih _ (Nat.div_lt_self (Nat.pos_of_ne_zero h) (by decide : 1 < 4294967296))
      intro k hk
      cases k with
      | zero =>
        rw [List.length_cons] at hk
        have h2 : limbs (n / 4294967296) = [] := List.eq_nil_of_length_eq_zero (by omega)
        rw [limbs_nil] at h2
        simp
        omega
      | succ k =>
        rw [List.length_cons] at hk
        have := h1 k (by omega)
        simpa using this
theorem limbs_val : ∀ {l : List Nat}, Ok l → Trim l → limbs (val l) = l := by
  intro l
  induction l with
  | nil => intro _ _; exact limbs_zero
  | cons x l ih =>
    intro h t
    have hx := h.head
    have t' : Trim l := by
      intro k hk
      have := t (k + 1) (by simp [hk])
      simpa using this
    have hne : val (x :: l) ≠ 0 := by
      intro h0
      rw [val] at h0
      have hx0 : x = 0 := by omega
      have hl : val l = 0 := by omega
      have e := ih h.tail t'
      rw [hl, limbs_zero] at e
      subst e
      have := t 0 rfl
      simp at this
      omega
    rw [limbs_pos hne, val, show (x + 4294967296 * val l) % 4294967296 = x by omega, show (x + 4294967296 * val l) / 4294967296 = val l by omega, ih h.tail t']
theorem limbs_len (n k : Nat) : (limbs n).length ≤ k ↔ n < 4294967296 ^ k := by
  constructor
  · intro h
    have h1 := val_lt (ok_limbs n)
    rw [val_limbs] at h1
    exact Nat.lt_of_lt_of_le h1 (Nat.pow_le_pow_right (by decide) h)
  · intro h
    rcases Nat.lt_or_ge k (limbs n).length with hl | hl
    · exfalso
      -- the last limb is not 0
      obtain ⟨m, hm⟩ : ∃ m, (limbs n).length = m + 1 := ⟨(limbs n).length - 1, by omega⟩
      have t := trim_limbs n m hm
      have s := val_split (limbs n) m (by omega)
      rw [val_limbs, val_drop_getD] at s
      have : 4294967296 ^ k ≤ 4294967296 ^ m := Nat.pow_le_pow_right (by decide) (by omega)
      have h2 : 4294967296 ^ m * 1 ≤ 4294967296 ^ m * ((limbs n).getD m 0 + 4294967296 * val ((limbs n).drop (m + 1))) := Nat.mul_le_mul_left _ (by omega)
      omega
    · exact hl
theorem limbs_len_mono {m n : Nat} (h : m ≤ n) : (limbs m).length ≤ (limbs n).length :=
  (limbs_len m _).2 (Nat.lt_of_le_of_lt h ((limbs_len n _).1 (Nat.le_refl _)))
theorem limbs_len_le_of_ok {l : List Nat} (h : Ok l) : (limbs (val l)).length ≤ l.length := (limbs_len _ _).2 (val_lt h)
/-- the limbs of a list's number are the list without zeros at its end -/
theorem limbs_take {l : List Nat} (h : Ok l) {k : Nat} (hk : k ≤ l.length) (hv : val (l.take k) = val l) (ht : Trim (l.take k)) : l.take k = limbs (val l) := by
  rw [← hv, limbs_val (h.take k) ht]
/-- valid limbs -/
theorem limbs_of_trim {l : List Nat} (h : Ok l) (t : Trim l) : ∃ n, l = limbs n := ⟨val l, (limbs_val h t).symm⟩
theorem limbs_lt_of_len {m n : Nat} (h : (limbs m).length < (limbs n).length) : m < n := by
  rcases Nat.lt_or_ge m n with h1 | h1
  · exact h1
  · have := limbs_len_mono h1; omega
theorem limbs_one {n : Nat} (h0 : n ≠ 0) (h : n < 4294967296) : limbs n = [n] := by
  rw [limbs_pos h0, show n % 4294967296 = n by omega, show n / 4294967296 = 0 by omega, limbs_zero]
/-- Two lists of one length are compared by their last limbs that differ. -/
theorem val_lt_of_drop {l m : List Nat} (hl : Ok l) (hlen : l.length = m.length) {k : Nat} (hk : k < l.length) (he : l.drop (k + 1) = m.drop (k + 1)) (h : l.getD k 0 < m.getD k 0) : val l < val m := by
  have s1 := val_split l k (by omega)
  have s2 := val_split m k (by omega)
  rw [val_drop_getD] at s1 s2
  rw [he] at s1
  have b := val_lt (hl.take k)
  rw [List.length_take, Nat.min_eq_left (by omega)] at b
  have h3 : 4294967296 ^ k * (l.getD k 0 + 4294967296 * val (m.drop (k + 1))) + 4294967296 ^ k ≤ 4294967296 ^ k * (m.getD k 0 + 4294967296 * val (m.drop (k + 1))) := by
    have := Nat.mul_le_mul_left (4294967296 ^ k) (show l.getD k 0 + 4294967296 * val (m.drop (k + 1)) + 1 ≤ m.getD k 0 + 4294967296 * val (m.drop (k + 1)) by omega)
    rw [Nat.mul_add _ _ 1, Nat.mul_one] at this
    exact this
  omega
theorem drop_eq_cons {l m : List Nat} {k : Nat} (hl : k < l.length) (hm : k < m.length) (he : l.drop (k + 1) = m.drop (k + 1)) (h : l.getD k 0 = m.getD k 0) : l.drop k = m.drop k := by
  have e1 := List.drop_eq_getElem_cons hl
  have e2 := List.drop_eq_getElem_cons hm
  rw [List.getD_eq_getElem?_getD, List.getD_eq_getElem?_getD, List.getElem?_eq_getElem hl, List.getElem?_eq_getElem hm] at h
  have h' : l[k] = m[k] := by simpa using h
  rw [e1, e2, he, h']
end Go.Proofs.YtjdnpkicdmapnaaGreatDoor.NL
namespace Go.Proofs.YtjdnpkicdmapnaaGreatDoor.NL
open Go
theorem set_zeros (pre : List Nat) (n : Nat) (x : Nat) : (pre ++ List.replicate (n + 1) 0).set pre.length x = (pre ++ [x]) ++ List.replicate n 0 := by
  rw [List.replicate_succ, List.set_append_right _ _ (Nat.le_refl _), Nat.sub_self, List.set_cons_zero, List.append_assoc]; rfl
theorem set_zeros' {pre : List Nat} {k n : Nat} (hk : pre.length = k) (hn : k < n) (x : Nat) : (pre ++ List.replicate (n - k) 0).set k x = (pre ++ [x]) ++ List.replicate (n - (k + 1)) 0 := by
  subst hk
  rw [show n - pre.length = (n - (pre.length + 1)) + 1 by omega, set_zeros]
theorem pow_split (k s : Nat) : 4294967296 ^ k * (s % 4294967296) + 4294967296 ^ (k + 1) * (s / 4294967296) = 4294967296 ^ k * s := by
  have h := Nat.mod_add_div s 4294967296
  rw [Nat.pow_succ, Nat.mul_assoc, ← Nat.mul_add, h]
theorem add_step {pre l1 l2 : List Nat} {k c : Nat} (hk : pre.length = k) (h : val pre + 4294967296 ^ k * c = val (l1.take k) + val (l2.take k)) :
    val (pre ++ [(l1.getD k 0 + l2.getD k 0 + c) % 4294967296]) + 4294967296 ^ (k + 1) * ((l1.getD k 0 + l2.getD k 0 + c) / 4294967296) = val (l1.take (k + 1)) + val (l2.take (k + 1)) := by
  rw [val_snoc, hk, val_take_getD, val_take_getD]
  have := pow_split k (l1.getD k 0 + l2.getD k 0 + c)
  rw [Nat.mul_add _ (l1.getD k 0 + l2.getD k 0), Nat.mul_add] at this
  generalize 4294967296 ^ (k + 1) * ((l1.getD k 0 + l2.getD k 0 + c) / 4294967296) = a at *
  generalize 4294967296 ^ k * ((l1.getD k 0 + l2.getD k 0 + c) % 4294967296) = b at *
  generalize 4294967296 ^ k * c = d at *
  generalize 4294967296 ^ k * l1.getD k 0 = e at *
  generalize 4294967296 ^ k * l2.getD k 0 = f at *
  omega
theorem add_end' {p a b P Q c q1 q2 : Nat} (h : p + Q * c = a + b) (b1 : a < q1) (b2 : b < q2) (p1 : q1 ≤ P) (p2 : q2 ≤ P) (hQ : P + P ≤ Q) : p = a + b ∧ c = 0 := by
  have hc : c = 0 := by
    rcases Nat.eq_zero_or_pos c with hc | hc
    · exact hc
    · have := Nat.le_mul_of_pos_right Q hc
      omega
  subst hc
  exact ⟨by omega, rfl⟩
/-- the sum is whole when all limbs are done -/
theorem add_end {pre l1 l2 : List Nat} {n c : Nat} (o1 : Ok l1) (o2 : Ok l2) (h1 : l1.length < n) (h2 : l2.length < n) (h : val pre + 4294967296 ^ n * c = val (l1.take n) + val (l2.take n)) : val pre = val l1 + val l2 ∧ c = 0 := by
  rw [val_take_all (Nat.le_of_lt h1), val_take_all (Nat.le_of_lt h2)] at h
  have b1 := val_lt o1
  have b2 := val_lt o2
  obtain ⟨m, rfl⟩ : ∃ m, n = m + 1 := ⟨n - 1, by omega⟩
  have p1 : 4294967296 ^ l1.length ≤ 4294967296 ^ m := Nat.pow_le_pow_right (by decide) (by omega)
  have p2 : 4294967296 ^ l2.length ≤ 4294967296 ^ m := Nat.pow_le_pow_right (by decide) (by omega)
  have hQ : 4294967296 ^ m + 4294967296 ^ m ≤ 4294967296 ^ (m + 1) := by
    rw [Nat.pow_succ]
    generalize 4294967296 ^ m = P
    omega
  exact add_end' h b1 b2 p1 p2 hQ
/-- what is borrowed -/
def brw (x y c : Nat) : Nat := if x < y + c then 1 else 0
theorem brw_le (x y c : Nat) : brw x y c ≤ 1 := by unfold brw; split <;> omega
theorem brw_eq (x y c : Nat) (hx : x < 4294967296) (hy : y < 4294967296) (hc : c ≤ 1) : (x + 4294967296 - y - c) % 4294967296 + y + c = x + 4294967296 * brw x y c := by unfold brw; split <;> omega
theorem sub_step {pre l1 l2 : List Nat} {k c : Nat} (o1 : Ok l1) (o2 : Ok l2) (hc : c ≤ 1) (hk : pre.length = k) (h : val pre + val (l2.take k) = val (l1.take k) + 4294967296 ^ k * c) :
    val (pre ++ [(l1.getD k 0 + 4294967296 - l2.getD k 0 - c) % 4294967296]) + val (l2.take (k + 1)) = val (l1.take (k + 1)) + 4294967296 ^ (k + 1) * brw (l1.getD k 0) (l2.getD k 0) c := by
  rw [val_snoc, hk, val_take_getD, val_take_getD]
  have e := brw_eq (l1.getD k 0) (l2.getD k 0) c (o1.getD k) (o2.getD k) hc
  have := congrArg (4294967296 ^ k * ·) e
  simp only [Nat.mul_add, ← Nat.mul_assoc] at this
  rw [Nat.pow_succ]
  omega
theorem sub_end {pre l1 l2 : List Nat} {n c : Nat} (ok : Ok pre) (hp : pre.length = n) (h1 : l1.length ≤ n) (h2 : l2.length ≤ n) (hle : val l2 ≤ val l1) (h : val pre + val (l2.take n) = val (l1.take n) + 4294967296 ^ n * c) : val pre = val l1 - val l2 ∧ c = 0 := by
  rw [val_take_all h1, val_take_all h2] at h
  have b := val_lt ok
  rw [hp] at b
  have hc : c = 0 := by
    rcases Nat.eq_zero_or_pos c with hc | hc
    · exact hc
    · have := Nat.mul_le_mul_left (4294967296 ^ n) hc
      omega
  subst hc
  exact ⟨by omega, rfl⟩
theorem val_set {l : List Nat} {k : Nat} (hk : k < l.length) (x : Nat) : val (l.set k x) + 4294967296 ^ k * l.getD k 0 = val l + 4294967296 ^ k * x := by
  induction l generalizing k with
  | nil => simp at hk
  | cons y l ih =>
    cases k with
    | zero => simp [val]; omega
    | succ k =>
      have := ih (k := k) (by simpa using hk)
      simp only [List.set_cons_succ, val, List.getD_cons_succ]
      have h2 := congrArg (4294967296 * ·) this
      simp only [Nat.mul_add, ← Nat.mul_assoc] at h2
      rw [Nat.pow_succ, Nat.mul_comm (4294967296 ^ k) 4294967296]
      omega
end Go.Proofs.YtjdnpkicdmapnaaGreatDoor.NL
namespace Go.Proofs.YtjdnpkicdmapnaaGreatDoor.NL
open Go
theorem limbs_prefix {l : List Nat} (h : Ok l) : l.take (limbs (val l)).length = limbs (val l) := by
  induction l with
  | nil => simp [val, limbs_zero]
  | cons x l ih =>
    by_cases h0 : val (x :: l) = 0
    · rw [h0, limbs_zero]; rfl
    · have hx := h.head
      rw [limbs_pos h0, val, show (x + 4294967296 * val l) % 4294967296 = x by omega, show (x + 4294967296 * val l) / 4294967296 = val l by omega, List.length_cons, List.take_succ_cons, ih h.tail]
end Go.Proofs.YtjdnpkicdmapnaaGreatDoor.NL
namespace Go.Proofs.YtjdnpkicdmapnaaGreatDoor.NL
open Go
theorem mul_carry {x y z c : Nat} (hx : x < 4294967296) (hy : y < 4294967296) (hz : z < 4294967296) (hc : c < 4294967296) : (x * y + z + c) / 4294967296 < 4294967296 := by
  have : x * y ≤ 4294967295 * 4294967295 := Nat.mul_le_mul (by omega) (by omega)
  omega
theorem mul_step {out l2 : List Nat} {k j c x V : Nat} (hj : k + j < out.length) (h : val out + 4294967296 ^ (k + j) * c = V + 4294967296 ^ k * (x * val (l2.take j))) :
    val (out.set (k + j) ((x * l2.getD j 0 + out.getD (k + j) 0 + c) % 4294967296)) + 4294967296 ^ (k + (j + 1)) * ((x * l2.getD j 0 + out.getD (k + j) 0 + c) / 4294967296) = V + 4294967296 ^ k * (x * val (l2.take (j + 1))) := by
  have s := val_set hj ((x * l2.getD j 0 + out.getD (k + j) 0 + c) % 4294967296)
  have p := pow_split (k + j) (x * l2.getD j 0 + out.getD (k + j) 0 + c)
  rw [Nat.mul_add _ (x * l2.getD j 0 + out.getD (k + j) 0), Nat.mul_add] at p
  rw [val_take_getD, Nat.mul_add x, Nat.mul_add (4294967296 ^ k), ← Nat.add_assoc k j 1]
  have e : 4294967296 ^ k * (x * (4294967296 ^ j * l2.getD j 0)) = 4294967296 ^ (k + j) * (x * l2.getD j 0) := by
    rw [Nat.pow_add]
    ac_rfl
  rw [e]
  generalize 4294967296 ^ (k + j + 1) * ((x * l2.getD j 0 + out.getD (k + j) 0 + c) / 4294967296) = a1 at *
  generalize val (out.set (k + j) ((x * l2.getD j 0 + out.getD (k + j) 0 + c) % 4294967296)) = a2 at *
  generalize 4294967296 ^ (k + j) * ((x * l2.getD j 0 + out.getD (k + j) 0 + c) % 4294967296) = a3 at *
  generalize 4294967296 ^ (k + j) * (x * l2.getD j 0) = a4 at *
  generalize 4294967296 ^ (k + j) * out.getD (k + j) 0 = a5 at *
  generalize 4294967296 ^ (k + j) * c = a6 at *
  generalize 4294967296 ^ k * (x * val (l2.take j)) = a7 at *
  omega
theorem mul_round {out l1 l2 : List Nat} {k c : Nat} (hk : k + l2.length < out.length) (hz : out.getD (k + l2.length) 0 = 0) (h : val out + 4294967296 ^ (k + l2.length) * c = val (l1.take k) * val l2 + 4294967296 ^ k * (l1.getD k 0 * val (l2.take l2.length))) :
    val (out.set (k + l2.length) c) = val (l1.take (k + 1)) * val l2 := by
  have s := val_set hk c
  rw [hz, Nat.mul_zero, Nat.add_zero] at s
  rw [s, h, val_take_getD, List.take_length, Nat.add_mul, Nat.mul_assoc]
theorem getD_set_ne {l : List Nat} {i j x : Nat} (h : i ≠ j) : (l.set i x).getD j 0 = l.getD j 0 := by
  rw [List.getD_eq_getElem?_getD, List.getD_eq_getElem?_getD, List.getElem?_set_ne h]
end Go.Proofs.YtjdnpkicdmapnaaGreatDoor.NL
namespace Go.Proofs.YtjdnpkicdmapnaaGreatDoor.NL
open Go
/-- the rational number of parts -/
def frac (s : Bool) (n d : Nat) : Rat := mkRat (if s then -(n : Int) else (n : Int)) d
def rneg (x : Rat) : Bool := decide (x.num < 0)
def rn (x : Rat) : Nat := x.num.natAbs
theorem sgn_abs (s : Bool) (n : Nat) : (if s then -(n : Int) else (n : Int)).natAbs = n := by cases s <;> simp
theorem frac_self (x : Rat) : frac (rneg x) (rn x) x.den = x := by
  unfold frac rneg rn
  rw [show (if decide (x.num < 0) = true then -(x.num.natAbs : Int) else (x.num.natAbs : Int)) = x.num by
    by_cases h : x.num < 0
    · rw [if_pos (decide_eq_true h)]; omega
    · rw [if_neg (by simpa using h)]; omega]
  exact Rat.mkRat_self x
theorem frac_den (s : Bool) {n d : Nat} (hd : d ≠ 0) : (frac s n d).den = d / Nat.gcd n d := by
  unfold frac; rw [Rat.den_mkRat, if_neg hd, sgn_abs, Nat.gcd_comm]
theorem frac_num (s : Bool) {n d : Nat} (hd : d ≠ 0) : (frac s n d).num = if s then -((n / Nat.gcd n d : Nat) : Int) else ((n / Nat.gcd n d : Nat) : Int) := by
  unfold frac
  rw [Rat.num_mkRat, if_neg hd, sgn_abs, Nat.gcd_comm]
  cases s
  · simp
  · simp only [if_true]
    rw [Int.neg_ediv_of_dvd (Int.natCast_dvd_natCast.2 (Nat.gcd_dvd_left n d))]
    simp
theorem frac_rn (s : Bool) {n d : Nat} (hd : d ≠ 0) : rn (frac s n d) = n / Nat.gcd n d := by
  unfold rn; rw [frac_num s hd, sgn_abs]
theorem div_gcd_pos {n d : Nat} (hn : n ≠ 0) : n / Nat.gcd n d ≠ 0 := by
  have := Nat.div_pos (Nat.le_of_dvd (Nat.pos_of_ne_zero hn) (Nat.gcd_dvd_left n d)) (Nat.gcd_pos_of_pos_left d (Nat.pos_of_ne_zero hn))
  omega
theorem frac_rneg (s : Bool) {n d : Nat} (hd : d ≠ 0) : rneg (frac s n d) = (s && decide (n ≠ 0)) := by
  unfold rneg
  rw [frac_num s hd]
  cases s
  · simp
    exact Int.ediv_nonneg (by omega) (by omega)
  · by_cases hn : n = 0
    · subst hn; simp
    · have := div_gcd_pos (d := d) hn
      have h1 : 0 < n / Nat.gcd n d := Nat.pos_of_ne_zero this
      have h2 : -((n / Nat.gcd n d : Nat) : Int) < 0 := by
        have : (0 : Int) < ((n / Nat.gcd n d : Nat) : Int) := Int.natCast_pos.2 h1
        exact Int.neg_neg_of_pos this
      rw [if_pos rfl, decide_eq_true h2, decide_eq_true hn]; rfl
theorem frac_zero (s : Bool) (d : Nat) : frac s 0 d = 0 := by
  unfold frac
  cases s <;> simp
theorem rn_zero_iff (x : Rat) : rn x = 0 ↔ x = 0 := by
  unfold rn; rw [Int.natAbs_eq_zero]; exact Rat.num_eq_zero
/-- parts in lowest terms are those of their number -/
theorem frac_parts {s : Bool} {n d : Nat} (hd : d ≠ 0) (hg : Nat.gcd n d = 1) (hs : s = true → n ≠ 0) : rneg (frac s n d) = s ∧ rn (frac s n d) = n ∧ (frac s n d).den = d := by
  refine ⟨?_, ?_, ?_⟩
  · rw [frac_rneg s hd]
    cases s
    · rfl
    · simp [hs rfl]
  · rw [frac_rn s hd, hg, Nat.div_one]
  · rw [frac_den s hd, hg, Nat.div_one]
theorem rgcd (x : Rat) : Nat.gcd (rn x) x.den = 1 := x.reduced
theorem rneg_ne {x : Rat} (h : rneg x = true) : rn x ≠ 0 := by
  unfold rneg at h; unfold rn
  have := of_decide_eq_true h
  omega
theorem frac_add_same (s : Bool) {n1 d1 n2 d2 : Nat} (h1 : d1 ≠ 0) (h2 : d2 ≠ 0) : frac s n1 d1 + frac s n2 d2 = frac s (n1 * d2 + n2 * d1) (d1 * d2) := by
  unfold frac
  rw [Rat.mkRat_add_mkRat _ _ h1 h2]
  congr 1
  cases s
  · simp
  · simp only [if_true]
    rw [Int.natCast_add, Int.natCast_mul, Int.natCast_mul]
    rw [Int.neg_mul, Int.neg_mul]
    omega
theorem frac_neg (s : Bool) (n d : Nat) : -frac s n d = frac (!s) n d := by
  unfold frac
  rw [Rat.neg_mkRat]
  congr 1
  cases s <;> simp
theorem frac_add_lt {s t : Bool} (hst : s ≠ t) {n1 d1 n2 d2 : Nat} (h1 : d1 ≠ 0) (h2 : d2 ≠ 0) (h : n1 * d2 < n2 * d1) : frac s n1 d1 + frac t n2 d2 = frac t (n2 * d1 - n1 * d2) (d1 * d2) := by
  unfold frac
  rw [Rat.mkRat_add_mkRat _ _ h1 h2]
  congr 1
  have e1 : ((n1 : Int) * (d2 : Int)) = ((n1 * d2 : Nat) : Int) := (Int.natCast_mul _ _).symm
  have e2 : ((n2 : Int) * (d1 : Int)) = ((n2 * d1 : Nat) : Int) := (Int.natCast_mul _ _).symm
  cases s <;> cases t <;> simp only [if_true, Bool.false_eq_true, if_false, Int.neg_mul, e1, e2] <;> first | exact absurd rfl hst | omega
theorem frac_add_ge {s t : Bool} (hst : s ≠ t) {n1 d1 n2 d2 : Nat} (h1 : d1 ≠ 0) (h2 : d2 ≠ 0) (h : ¬ n1 * d2 < n2 * d1) : frac s n1 d1 + frac t n2 d2 = frac s (n1 * d2 - n2 * d1) (d1 * d2) := by
  unfold frac
  rw [Rat.mkRat_add_mkRat _ _ h1 h2]
  congr 1
  have e1 : ((n1 : Int) * (d2 : Int)) = ((n1 * d2 : Nat) : Int) := (Int.natCast_mul _ _).symm
  have e2 : ((n2 : Int) * (d1 : Int)) = ((n2 * d1 : Nat) : Int) := (Int.natCast_mul _ _).symm
  cases s <;> cases t <;> simp only [if_true, Bool.false_eq_true, if_false, Int.neg_mul, e1, e2] <;> first | exact absurd rfl hst | omega
theorem frac_mul (s t : Bool) (n1 d1 n2 d2 : Nat) : frac s n1 d1 * frac t n2 d2 = frac (s != t) (n1 * n2) (d1 * d2) := by
  unfold frac
  rw [Rat.mkRat_mul_mkRat]
  congr 1
  cases s <;> cases t <;> simp [Int.neg_mul, Int.mul_neg, Int.neg_neg]
theorem frac_inv (s : Bool) {n d : Nat} (hn : n ≠ 0) : (frac s n d)⁻¹ = frac s d n := by
  by_cases hd : d = 0
  · subst hd; unfold frac; cases s <;> simp
  have h0 : frac s n d ≠ 0 := by
    intro h
    have := (rn_zero_iff _).2 h
    rw [frac_rn s hd] at this
    exact div_gcd_pos hn this
  have hm : frac s n d * frac s d n = 1 := by
    rw [frac_mul]
    unfold frac
    rw [show (s != s) = false by cases s <;> rfl]
    simp only [Bool.false_eq_true, if_false]
    rw [Nat.mul_comm d n]
    have h1 : ((n * d : Nat) : Rat) ≠ 0 := by
      intro h
      exact Nat.mul_ne_zero hn hd (by exact_mod_cast h)
    rw [Rat.mkRat_eq_div]
    rw [show (((n * d : Nat) : Int) : Rat) = ((n * d : Nat) : Rat) from rfl]
    rw [Rat.div_def]
    exact Rat.mul_inv_cancel _ h1
  grind
end Go.Proofs.YtjdnpkicdmapnaaGreatDoor.NL
