/- Plain facts and contracts of functions of the program, out of walks. Their conditions stand ahead of each. -/
import Derived.Test.YtfifcpgjcgoinaaQ5
import Derived.Test.YtfifcpgjcgoinaaQ8
set_option linter.unusedVariables false
set_option linter.unusedSimpArgs false
namespace Go.Proofs.Ytfifcpgjcgoinaa.NL
open Go
/-- digits from the lowest: the number T's lowest k limbs -/
theorem mod_step {T k p x : Nat} (h : p = T % 4294967296 ^ k) (hx : x = T / 4294967296 ^ k % 4294967296) : p + 4294967296 ^ k * x = T % 4294967296 ^ (k + 1) := by
  rw [Nat.pow_succ, Nat.mod_mul, h, hx]
theorem low_step {pre : List Nat} {T k x : Nat} (hp : pre.length = k) (h : val pre = T % 4294967296 ^ k) (hx : x = T / 4294967296 ^ k % 4294967296) : val (pre ++ [x]) = T % 4294967296 ^ (k + 1) := by
  rw [val_snoc, hp]; exact mod_step h hx
/-- a limb of a number shifted down by less than a limb -/
theorem down_limb {l : List Nat} (h : Ok l) (k s : Nat) (hs : s < 32) : (l.getD k 0 + 4294967296 * l.getD (k + 1) 0) / 2 ^ s % 4294967296 = val l / 2 ^ s / 4294967296 ^ k % 4294967296 := by
  rw [Nat.div_div_eq_div_mul, Nat.mul_comm (2 ^ s), ← Nat.div_div_eq_div_mul, val_div l h k]
  have e := val_drop_getD l k
  have e2 := val_drop_getD l (k + 1)
  rw [e2] at e
  rw [e]
  generalize val (l.drop (k + 1 + 1)) = z
  generalize l.getD k 0 = x
  generalize l.getD (k + 1) 0 = y
  have hd : (4294967296 : Nat) * 4294967296 = 2 ^ s * (2 ^ (32 - s) * 4294967296) := by
    rw [← Nat.mul_assoc, ← Nat.pow_add, show s + (32 - s) = 32 by omega]
  have : x + 4294967296 * (y + 4294967296 * z) = (x + 4294967296 * y) + 2 ^ s * (4294967296 * (2 ^ (32 - s) * z)) := by
    rw [Nat.mul_add, ← Nat.mul_assoc 4294967296 4294967296 z, hd]
    rw [Nat.mul_assoc (2 ^ s), Nat.mul_assoc (2 ^ (32 - s)), Nat.mul_left_comm (2 ^ (32 - s)) 4294967296 z]
    omega
  rw [this, Nat.add_mul_div_left _ _ (Nat.two_pow_pos s), Nat.add_mul_mod_self_left]
/-- the numbers behind the first limbs -/
theorem div_pow_split {v m : Nat} : v / 2 ^ m = v / 4294967296 ^ (m / 32) / 2 ^ (m % 32) := by
  rw [Nat.div_div_eq_div_mul, pow32, ← Nat.pow_add, Nat.div_add_mod]
theorem down_end {pre l : List Nat} {n s : Nat} (hl : Ok l) (hn : l.length ≤ n) (h : val pre = val l / 2 ^ s % 4294967296 ^ n) : val pre = val l / 2 ^ s := by
  rw [h]
  apply Nat.mod_eq_of_lt
  have h1 := val_lt hl
  have h2 : 4294967296 ^ l.length ≤ 4294967296 ^ n := Nat.pow_le_pow_right (by decide) hn
  have := Nat.div_le_self (val l) (2 ^ s)
  omega
/-- one limb shifted up: what is written to two limbs -/
theorem up_bound {V P x s : Nat} (hV : V < P * 2 ^ s) (hx : x < 4294967296) : V + P * (x * 2 ^ s) < P * 4294967296 * 2 ^ s := by
  have h1 : x * 2 ^ s + 2 ^ s ≤ 4294967296 * 2 ^ s := by
    have := Nat.mul_le_mul_right (2 ^ s) (Nat.succ_le_of_lt hx)
    rwa [Nat.succ_mul] at this
  have h2 := Nat.mul_le_mul_left P h1
  rw [Nat.mul_add] at h2
  rw [Nat.mul_assoc]
  omega
/-- out's limb at the place i is all that lies from there on -/
theorem top_limb {out : List Nat} {i s : Nat} (ho : Ok out) (h : val out < 4294967296 ^ i * 2 ^ s) (hs : s ≤ 32) : out.getD i 0 = val out / 4294967296 ^ i ∧ out.getD i 0 < 2 ^ s ∧ (∀ j, i < j → out.getD j 0 = 0) := by
  have hq : val out / 4294967296 ^ i < 2 ^ s := Nat.div_lt_of_lt_mul h
  have lt : 2 ^ s ≤ 4294967296 := by
    have := Nat.pow_le_pow_right (n := 2) (by decide) hs
    simpa using this
  have e := getD_val out ho i
  rw [Nat.mod_eq_of_lt (by omega)] at e
  refine ⟨e, by omega, fun j hj => ?_⟩
  rw [getD_val out ho j, Nat.div_eq_of_lt, Nat.zero_mod]
  refine Nat.lt_of_lt_of_le h ?_
  have h1 : 4294967296 ^ (i + 1) ≤ 4294967296 ^ j := Nat.pow_le_pow_right (by decide) hj
  rw [Nat.pow_succ] at h1
  have h2 : 4294967296 ^ i * 2 ^ s ≤ 4294967296 ^ i * 4294967296 := Nat.mul_le_mul_left _ lt
  omega
theorem val_set' {out : List Nat} {i : Nat} (hi : i < out.length) (x : Nat) : val (out.set i x) + 4294967296 ^ i * out.getD i 0 = val out + 4294967296 ^ i * x := by
  induction out generalizing i with
  | nil => simp at hi
  | cons y l ih =>
    cases i with
    | zero => simp [val]; omega
    | succ i =>
      rw [List.set_cons_succ, val, val, List.getD_cons_succ]
      have := ih (i := i) (by simpa using hi)
      rw [Nat.pow_succ, Nat.mul_comm _ 4294967296, Nat.mul_assoc, Nat.mul_assoc]
      omega
theorem up_step {out : List Nat} {i s x : Nat} (ho : Ok out) (hs : s < 32) (hx : x < 4294967296) (hi : i + 1 < out.length) (hV : val out < 4294967296 ^ i * 2 ^ s) :
    out.getD i 0 + x * 2 ^ s % 4294967296 < 4294967296 ∧ x * 2 ^ s / 4294967296 < 4294967296 ∧
    val ((out.set i (out.getD i 0 + x * 2 ^ s % 4294967296)).set (i + 1) (x * 2 ^ s / 4294967296)) = val out + 4294967296 ^ i * (x * 2 ^ s) ∧
    val out + 4294967296 ^ i * (x * 2 ^ s) < 4294967296 ^ (i + 1) * 2 ^ s := by
  obtain ⟨h1, h2, h3⟩ := top_limb ho hV (by omega)
  have lt : 2 ^ s ≤ 2 ^ 31 := Nat.pow_le_pow_right (by decide) (by omega)
  have hxs : x * 2 ^ s < 4294967296 * 2 ^ 31 := Nat.lt_of_lt_of_le (Nat.mul_lt_mul_of_pos_right hx (Nat.two_pow_pos s)) (Nat.mul_le_mul_left _ lt)
  have hlow : x * 2 ^ s % 4294967296 + 2 ^ s ≤ 4294967296 := by
    have hd : (4294967296 : Nat) = 2 ^ s * 2 ^ (32 - s) := by rw [← Nat.pow_add, show s + (32 - s) = 32 by omega]
    have hm : x * 2 ^ s % 4294967296 = 2 ^ s * (x % 2 ^ (32 - s)) := by
      conv => lhs; rw [hd, Nat.mul_comm x]
      rw [Nat.mul_mod_mul_left]
    have hl := Nat.mod_lt x (Nat.two_pow_pos (32 - s))
    have := Nat.mul_le_mul_left (2 ^ s) (Nat.succ_le_of_lt hl)
    rw [Nat.mul_succ, ← hd] at this
    omega
  refine ⟨by omega, by omega, ?_, by rw [Nat.pow_succ]; exact up_bound hV hx⟩
  have s1 := val_set' (out := out.set i (out.getD i 0 + x * 2 ^ s % 4294967296)) (i := i + 1) (by simpa using hi) (x * 2 ^ s / 4294967296)
  have s2 := val_set' (out := out) (i := i) (by omega) (out.getD i 0 + x * 2 ^ s % 4294967296)
  rw [getD_set_ne (by omega), h3 (i + 1) (by omega), Nat.mul_zero, Nat.add_zero] at s1
  rw [Nat.mul_add] at s2
  have p := pow_split i (x * 2 ^ s)
  omega
/-- a limb of a quotient by a limb, from the highest on -/
theorem small_step {l : List Nat} {k d Q R : Nat} (hd : 0 < d) (hQ : Q = val (l.drop (k + 1)) / d) (hR : R = val (l.drop (k + 1)) % d) :
    (R * 4294967296 + l.getD k 0) / d + 4294967296 * Q = val (l.drop k) / d ∧ (R * 4294967296 + l.getD k 0) % d = val (l.drop k) % d := by
  rw [val_drop_getD l k]
  generalize val (l.drop (k + 1)) = V at *
  generalize l.getD k 0 = x
  have hV : V = Q * d + R := by rw [hQ, hR, Nat.mul_comm]; exact (Nat.div_add_mod V d).symm
  have e : x + 4294967296 * V = (R * 4294967296 + x) + d * (4294967296 * Q) := by
    rw [hV, Nat.mul_add, Nat.mul_comm Q d, ← Nat.mul_assoc 4294967296 d Q, Nat.mul_comm 4294967296 d, Nat.mul_assoc]
    omega
  rw [e, Nat.add_mul_div_left _ _ hd, Nat.add_mul_mod_self_left]
  exact ⟨rfl, rfl⟩
end Go.Proofs.Ytfifcpgjcgoinaa.NL
namespace Go.Proofs.Ytfifcpgjcgoinaa.NL
open Go
/-- the quotient's limb is not more than what the highest limbs tell -/
theorem guess_ge {R d top head P q : Nat} (htop : 0 < top) (h1 : P * top ≤ d) (h2 : R < P * (head + 1)) (hq : q * d ≤ R) : q ≤ head / top := by
  rw [Nat.le_div_iff_mul_le htop]
  have h3 : P * (q * top) ≤ q * d := by rw [Nat.mul_left_comm]; exact Nat.mul_le_mul_left q h1
  have h4 : P * (q * top) < P * (head + 1) := by omega
  have := Nat.lt_of_mul_lt_mul_left h4
  omega
theorem quot_lt {R d : Nat} (h : R < 4294967296 * d) : R / d < 4294967296 := Nat.div_lt_of_lt_mul (by rwa [Nat.mul_comm] at h)
/-- Newton's step from above -/
theorem newton_ge (v x : Nat) (hx : 0 < x) : v < ((x + v / x) / 2 + 1) * ((x + v / x) / 2 + 1) := by
  have h1 : v < x * (v / x + 1) := by
    have := Nat.lt_mul_div_succ v hx
    exact this
  generalize v / x = q at *
  obtain ⟨m, hm⟩ : ∃ m, (x + q) / 2 = m := ⟨_, rfl⟩
  rw [hm]
  have h2 : x + (q + 1) ≤ 2 * (m + 1) := by omega
  generalize q + 1 = y at *
  generalize m + 1 = z at *
  -- 4xy ≤ (x+y)^2 ≤ 4 z^2
  have h3 : x * y ≤ z * z := by
    rcases Nat.le_total x z with hh | hh
    · obtain ⟨t, rfl⟩ : ∃ t, z = x + t := ⟨z - x, by omega⟩
      have : y ≤ x + 2 * t := by omega
      have h4 := Nat.mul_le_mul_left x this
      rw [Nat.mul_add] at h4
      rw [Nat.add_mul, Nat.mul_add, Nat.mul_add, Nat.mul_comm t x]
      have e5 : x * (2 * t) = x * t + x * t := by rw [Nat.mul_left_comm]; omega
      have : 0 ≤ t * t := Nat.zero_le _
      omega
    · obtain ⟨t, rfl⟩ : ∃ t, x = z + t := ⟨x - z, by omega⟩
      have : y + t ≤ z := by omega
      obtain ⟨u, rfl⟩ : ∃ u, z = y + t + u := ⟨z - y - t, by omega⟩
      have h4 : (y + t + u + t) * y ≤ (y + t + u) * (y + t + u) := by
        have e1 : (y + t + u + t) * y = y * y + t * y + u * y + t * y := by simp [Nat.add_mul]
        have e2 : (y + t + u) * (y + t + u) = y * y + t * y + u * y + (y * t + t * t + u * t) + (y * u + t * u + u * u) := by simp [Nat.add_mul, Nat.mul_add]
        rw [e1, e2, Nat.mul_comm y t]
        have := Nat.zero_le (t * t)
        omega
      exact h4
  omega
/-- r is the integer square root -/
def IsRt (v r : Nat) : Prop := r * r ≤ v ∧ v < (r + 1) * (r + 1)
theorem rt_uniq {v r s : Nat} (h : IsRt v r) (k : IsRt v s) : r = s := by
  rcases Nat.lt_trichotomy r s with h1 | h1 | h1
  · exfalso
    have := Nat.mul_le_mul (show r + 1 ≤ s by omega) (show r + 1 ≤ s by omega)
    have := h.2; have := k.1; omega
  · exact h1
  · exfalso
    have := Nat.mul_le_mul (show s + 1 ≤ r by omega) (show s + 1 ≤ r by omega)
    have := k.2; have := h.1; omega
theorem newton_end {v x : Nat} (hx : 0 < x) (hv : v < (x + 1) * (x + 1)) (h : x ≤ (x + v / x) / 2) : IsRt v x := by
  refine ⟨?_, hv⟩
  have h1 : x ≤ v / x := by omega
  exact (Nat.le_div_iff_mul_le hx).1 h1
theorem newton_pos {v x : Nat} (hx : 0 < x) (h0 : 0 < v) : 0 < (x + v / x) / 2 := by
  rcases Nat.lt_or_ge v x with h | h
  · generalize v / x = q
    omega
  · have : 0 < v / x := Nat.div_pos h hx
    generalize v / x = q at *
    omega
theorem root_start (v : Nat) : v < (2 ^ ((nb v + 1) / 2) + 1) * (2 ^ ((nb v + 1) / 2) + 1) := by
  have h1 := nb_lt v
  have h2 : 2 ^ nb v ≤ 2 ^ ((nb v + 1) / 2) * 2 ^ ((nb v + 1) / 2) := by rw [← Nat.pow_add]; exact Nat.pow_le_pow_right (by decide) (by omega)
  have h3 := Nat.mul_le_mul (Nat.le_succ (2 ^ ((nb v + 1) / 2))) (Nat.le_succ (2 ^ ((nb v + 1) / 2)))
  simp only [Nat.succ_eq_add_one] at h3
  omega
theorem rt_ex (v : Nat) : ∃ r, IsRt v r := by
  induction v with
  | zero => exact ⟨0, by decide, by decide⟩
  | succ v ih =>
    obtain ⟨r, h1, h2⟩ := ih
    rcases Nat.lt_or_ge (v + 1) ((r + 1) * (r + 1)) with h | h
    · exact ⟨r, by omega, h⟩
    · refine ⟨r + 1, h, ?_⟩
      have : (r + 1 + 1) * (r + 1 + 1) = (r + 1) * (r + 1) + 2 * r + 3 := by simp [Nat.add_mul, Nat.mul_add]; omega
      omega
/-- the root -/
noncomputable def rt (v : Nat) : Nat := Classical.choose (rt_ex v)
theorem rt_is (v : Nat) : IsRt v (rt v) := Classical.choose_spec (rt_ex v)
theorem rt_eq {v r : Nat} (h : IsRt v r) : rt v = r := rt_uniq (rt_is v) h
/-- the decimal digits, the lowest first -/
def digs (n : Nat) : List Nat := if h : n = 0 then [] else n % 10 :: digs (n / 10)
termination_by n
decreasing_by exact Nat.div_lt_self (Nat.pos_of_ne_zero h) (by decide)
theorem digs_zero : digs 0 = [] := by rw [digs]; rfl
theorem digs_pos {n : Nat} (h : n ≠ 0) : digs n = n % 10 :: digs (n / 10) := by rw [digs, dif_neg h]
theorem digs_lt (n : Nat) : ∀ x ∈ digs n, x < 10 := by
  induction n using Nat.strongRecOn with
  | ind n ih =>
    by_cases h : n = 0
    · subst h; rw [digs_zero]; simp
    · rw [digs_pos h]
      intro x hx
      rcases List.mem_cons.1 hx with rfl | hx
      · exact Nat.mod_lt _ (by decide)
      · exact ih _ (Nat.div_lt_self (Nat.pos_of_ne_zero h) (by decide)) x hx
/-- the number that digits stand for, the highest first -/
def dval (l : List Nat) : Nat := l.foldl (fun n d => 10 * n + d) 0
theorem dval_snoc (l : List Nat) (d : Nat) : dval (l ++ [d]) = 10 * dval l + d := by simp [dval]
theorem dval_digs (n : Nat) : dval (digs n).reverse = n := by
  induction n using Nat.strongRecOn with
  | ind n ih =>
    by_cases h : n = 0
    · subst h; rw [digs_zero]; rfl
    · rw [digs_pos h, List.reverse_cons, dval_snoc, ih _ (Nat.div_lt_self (Nat.pos_of_ne_zero h) (by decide))]
      omega
theorem digs_len (n k : Nat) (h : n < 10 ^ k) : (digs n).length ≤ k := by
  induction k generalizing n with
  | zero => have : n = 0 := by simp at h; exact h
            subst this; rw [digs_zero]; exact Nat.le_refl _
  | succ k ih =>
    by_cases h0 : n = 0
    · subst h0; rw [digs_zero]; exact Nat.zero_le _
    · rw [digs_pos h0, List.length_cons]
      have := ih (n / 10) (by rw [Nat.pow_succ] at h; omega)
      omega
/-- the highest digit is not 0 -/
theorem digs_last (n : Nat) (k : Nat) (h : (digs n).length = k + 1) : (digs n).getD k 0 ≠ 0 := by
  induction n using Nat.strongRecOn generalizing k with
  | ind n ih =>
    by_cases h0 : n = 0
    · subst h0; rw [digs_zero] at h; cases h
    · rw [digs_pos h0] at h ⊢
      cases k with
      | zero =>
        rw [List.length_cons] at h
        have h2 : digs (n / 10) = [] := List.eq_nil_of_length_eq_zero (by omega)
        by_cases h3 : n / 10 = 0
        · simp; omega
        · rw [digs_pos h3] at h2; cases h2
      | succ k =>
        rw [List.length_cons] at h
        have := ih (n / 10) (Nat.div_lt_self (Nat.pos_of_ne_zero h0) (by decide)) k (by omega)
        simpa using this
end Go.Proofs.Ytfifcpgjcgoinaa.NL
namespace Go.Proofs.Ytfifcpgjcgoinaa
open Go.RowKit GW NL
set_option maxRecDepth 20000 in
theorem shift_up (A : Option Addr) (c : Nat) (l : List Nat) (s : Nat) (w : World) (h : SlW w A c l) (hl : l.length ≤ 1000000000) (hs : s ≤ 1000000000) :
    Calls Try.prog 66 #[.slice A l.length c, .int .i64 (s : Int)] w (RNat (val l * 2 ^ s) w) := by
  refine calls_b fun g => ?_
  obtain ⟨n1, hn1⟩ : ∃ n : Nat, l.length = n := ⟨_, rfl⟩
  obtain ⟨q, hq⟩ : ∃ q : Nat, s / 32 = q := ⟨_, rfl⟩
  obtain ⟨r, hr⟩ : ∃ r : Nat, s % 32 = r := ⟨_, rfl⟩
  have hr32 : r < 32 := by omega
  have hq9 : q ≤ 1000000000 := by omega
  have hqi : Int.tdiv (s : Int) 32 = (q : Int) := by rw [Int.tdiv_eq_ediv_of_nonneg (by omega)]; omega
  have hri : Int.tmod (s : Int) 32 = (r : Int) := by rw [Int.tmod_eq_emod_of_nonneg (by omega)]; omega
  have hpow : 4294967296 ^ q * 2 ^ r = 2 ^ s := by rw [pow32, ← Nat.pow_add]; congr 1; omega
  have HP := Lib.hid hpow
  have hs0 : ¬ ((s : Int) < 0) := by omega
  rw [hn1]
  have ha1 : l.length ≤ n1 := by omega
  have ha2 : n1 ≤ l.length := by omega
  clear hn1 hq hr hpow
  obtain ⟨n, hn⟩ : ∃ n : Nat, n1 + q + 1 = n := ⟨_, rfl⟩
  have hmk : ∀ w, (Instr.makeSlice 24 (.int .i64 ((n1 : Int) + (q : Int) + 1)) (.int .i64 ((n1 : Int) + (q : Int) + 1))).run Try.prog w = .ok (.slice (some ⟨w.heap.size, 0, none⟩) n n) (w.alloc (.cells (u32s (List.replicate n 0)).toArray 30)) := by
    intro w
    have := make_nat n (by omega) w
    rw [← hn] at this ⊢
    exact this
  have hn' : n ≤ n1 + q + 1 := by omega
  have hn'' : n1 + q + 1 ≤ n := by omega
  clear hn
  generalize (s : Int) = si at *
  go_enter Try.func66, Try.ntmps66
  go_wp2_with (with_reducible refine G.any_mark _ ?_; (try generalize Array.size (World.heap (G.w _)) = bk); (try dsimp only [List.set_cons_zero, List.set_cons_succ]); (try clear g); intro g)
  go_loopw [69] (fun i wr => ∃ (k : Nat) (out : List Nat), i = .int .i64 k ∧ k ≤ n1 ∧ n ≤ out.length ∧ out.length ≤ n ∧ Ok out ∧ val out = val (l.take k) * 2 ^ s ∧ ∃ g : G w [] [(bk, 30, u32s out)] [heapOf w], wr = g.w) (fun i _ => n1 - (intOf i).toNat)
  case atStart => exact ⟨0, List.replicate n 0, rfl, Nat.zero_le _, by simp, by simp, Ok.zeros _, by rw [val_zeros]; simp [val], g, rfl⟩
  case round =>
    clear g hmk
    obtain ⟨k, out, rfl, hk, hp1, hp2, hok, hv, g, rfl⟩ := hrel
    have HV := Lib.hid hv
    clear hv
    by_cases hk2 : k < n1
    · obtain ⟨b, o, rfl, hcell⟩ := lim_cells h.lim (by omega)
      have e0 := hcell k (by omega) _ _ _ _ g (by simp)
      clear hcell
      have hx := h.ok.getD k
      have hV : val out < 4294967296 ^ (k + q) * 2 ^ r := by
        rw [HV.out, ← HP.out, Nat.pow_add, Nat.mul_assoc, ← Nat.mul_assoc]
        have b := val_lt (h.ok.take k)
        rw [List.length_take, Nat.min_eq_left (by omega)] at b
        rw [← Nat.mul_assoc]
        have := Nat.mul_lt_mul_of_pos_right b (show 0 < 4294967296 ^ q * 2 ^ r from Nat.mul_pos (Nat.pow_pos (by decide)) (Nat.two_pow_pos r))
        rwa [← Nat.mul_assoc, ← Nat.mul_assoc] at this
      obtain ⟨u1, u2, u3, u4⟩ := up_step (x := l.getD k 0) hok hr32 hx (by omega) hV
      have hz := u32s_getD (l := out) (j := k + q) (by omega)
      have hz2 := u32s_getD (l := out) (j := k + q + 1) (by omega)
      have hV2 : Hid (∀ x, l.getD k 0 = x → val out + 4294967296 ^ (k + q) * (x * 2 ^ r) = val (l.take (k + 1)) * 2 ^ s) := Lib.hid (fun x hx => by
        rw [HV.out, val_take_getD, ← HP.out, hx, Nat.add_mul, Nat.pow_add]
        generalize 2 ^ r = R
        generalize 4294967296 ^ q = Q
        generalize 4294967296 ^ k = K
        rw [Nat.mul_assoc K x, Nat.mul_assoc K Q, Nat.mul_left_comm Q x R])
      have hok2 := (hok.set (k + q) u1).set (k + q + 1) u2
      have hlen : ((out.set (k + q) (out.getD (k + q) 0 + l.getD k 0 * 2 ^ r % 4294967296)).set (k + q + 1) (l.getD k 0 * 2 ^ r / 4294967296)).length = out.length := by simp
      have hV3 := hV2.out _ rfl
      have hlow : (l.getD k 0 * 2 ^ r % 4294967296) % 2 ^ r = 0 := by
        have hd : (4294967296 : Nat) = 2 ^ r * 2 ^ (32 - r) := by rw [← Nat.pow_add, show r + (32 - r) = 32 by omega]
        rw [hd, Nat.mod_mul_right_mod, Nat.mul_mod_left]
      have hzr : out.getD (k + q) 0 < 2 ^ r := (top_limb hok hV (by omega)).2.1
      have hy64 : l.getD k 0 * 2 ^ r < 18446744073709551616 := by
        have : l.getD k 0 * 2 ^ r < 4294967296 * 2 ^ r := Nat.mul_lt_mul_of_pos_right hx (Nat.two_pow_pos r)
        have h2 : (2 : Nat) ^ r ≤ 2 ^ 32 := Nat.pow_le_pow_right (by decide) (by omega)
        omega
      generalize out.getD (k + q + 1) 0 = z2 at *
      obtain ⟨x, hxx⟩ : ∃ x, l.getD k 0 = x := ⟨_, rfl⟩
      rw [hxx] at e0 hx u1 u2 u3 u4 hV3 hok2 hlen hlow hy64
      clear hV2 hxx hV u4
      obtain ⟨y, hy⟩ : ∃ y, x * 2 ^ r = y := ⟨_, rfl⟩
      rw [hy] at u1 u2 u3 hV3 hok2 hlen hlow hy64
      have hsh : IntKind.u64.wrap ((x : Int) * 2 ^ r) = (y : Int) := by
        rw [show (x : Int) * 2 ^ r = ((x * 2 ^ r : Nat) : Int) by rw [Int.natCast_mul, Int.natCast_pow]; rfl, hy, IntKind.wrap_u64]
        omega
      clear hy
      have hor : bits .or .u32 ((out.getD (k + q) 0 : Nat) : Int) ((y : Int) % 4294967296) = ((out.getD (k + q) 0 + y % 4294967296 : Nat) : Int) := by
        rw [K3.or32_comm, show (y : Int) % 4294967296 = ((y % 4294967296 : Nat) : Int) by omega]
        rw [K3.or32_comm, K3.or32_add _ _ r (by omega) hzr (by omega) hlow, Nat.add_comm]
      have hs1 := Lib.hid (u32s_set out (k + q) (out.getD (k + q) 0 + y % 4294967296))
      have hs2 := Lib.hid (u32s_set (out.set (k + q) (out.getD (k + q) 0 + y % 4294967296)) (k + q + 1) (y / 4294967296))
      have U3 := Lib.hid (u3.trans hV3)
      generalize out.getD (k + q) 0 + y % 4294967296 = lo at *
      generalize out.getD (k + q) 0 = z at *
      have hl1 := Nat.le_of_eq hlen
      have hl2 := Nat.le_of_eq hlen.symm
      have HHI : Hid ((y : Int) / 4294967296 = ((y / 4294967296 : Nat) : Int)) := Lib.hid (by omega)
      have hob : ∃ ob : Nat, ob = bk := ⟨_, rfl⟩
      clear u3 hV3 hlen HV hlow hy64 hzr
      go_wp2_with (with_reducible refine G.any_mark _ ?_; (try generalize Array.size (World.heap (G.w _)) = bk); (try dsimp only [List.set_cons_zero, List.set_cons_succ]); (try clear g); intro g)
      obtain ⟨g2, hg2⟩ := g.as (by rw [hs1.out, HHI.out, hs2.out])
      exact ⟨⟨k + 1, _, by go_num, by omega, by omega, by omega, hok2, U3.out, g2, hg2⟩, by simp [intOf]; omega⟩
    · obtain rfl : k = n1 := by omega
      have e1 := HV.out
      rw [val_take_all ha1] at e1
      have E1 := Lib.hid e1
      obtain rfl : n = out.length := by omega
      clear e1 HV
      have hsl : SlW g.w (some ⟨bk, 0, none⟩) out.length out := (sl_blk (Nat.le_refl _) (by omega) hok).at (blkF_sub g.blk0)
      go_wp2_with (with_reducible refine G.any_mark _ ?_; (try generalize Array.size (World.heap (G.w _)) = bk); (try dsimp only [List.set_cons_zero, List.set_cons_succ]); (try clear g); intro g)
      refine (trim_any _ _ out _ hsl).mono ?_
      rintro e w1 ⟨rfl, hb⟩
      obtain ⟨g1, rfl⟩ := G.call_ex _ hb
      clear hb hsl g
      revert g1
      intro g
      go_wp2_with (with_reducible refine G.any_mark _ ?_; (try generalize Array.size (World.heap (G.w _)) = bk); (try dsimp only [List.set_cons_zero, List.set_cons_succ]); (try clear g); intro g)
      go_ret
      exact rnat_end g (List.mem_cons_self ..) hok (Nat.le_refl _) (by omega) E1.out
end Go.Proofs.Ytfifcpgjcgoinaa
namespace Go.Proofs.Ytfifcpgjcgoinaa
open Go.RowKit GW NL
theorem down_zero {l : List Nat} (hk : Ok l) {m : Nat} (h : l.length ≤ m / 32) : val l / 2 ^ m = 0 := by
  apply Nat.div_eq_of_lt
  have h1 := val_lt hk
  rw [pow32] at h1
  exact Nat.lt_of_lt_of_le h1 (Nat.pow_le_pow_right (by decide) (by omega))
set_option maxRecDepth 100000 in
set_option maxHeartbeats 1000000 in
theorem shift_down (A : Option Addr) (c : Nat) (l : List Nat) (m : Nat) (N : Int) (w : World) (h : SlW w A c l) (hl : l.length ≤ 1000000000) (hN : -N = (m : Int)) (hm0 : N < 0) (hm : m ≤ 1000000000) :
    Calls Try.prog 66 #[.slice A l.length c, .int .i64 N] w (RNat (val l / 2 ^ m) w) := by
  refine calls_b fun g => ?_
  obtain ⟨n1, hn1⟩ : ∃ n : Nat, l.length = n := ⟨_, rfl⟩
  obtain ⟨q, hq⟩ : ∃ q : Nat, m / 32 = q := ⟨_, rfl⟩
  obtain ⟨r, hr⟩ : ∃ r : Nat, m % 32 = r := ⟨_, rfl⟩
  have hr32 : r < 32 := by omega
  have hqi : Int.tdiv (m : Int) 32 = (q : Int) := by rw [Int.tdiv_eq_ediv_of_nonneg (by omega)]; omega
  have hri : Int.tmod (m : Int) 32 = (r : Int) := by rw [Int.tmod_eq_emod_of_nonneg (by omega)]; omega
  have hZ := Lib.hid (down_zero (m := m) h.ok)
  have hD : Hid (val l / 2 ^ m = val (l.drop q) / 2 ^ r) := Lib.hid (by rw [div_pow_split, hq, hr, val_div l h.ok])
  have hmx := h.len
  have hmxx := h.max
  have hcp := h.cap
  have hq9 : q ≤ 1000000000 := by omega
  by_cases hqn : l.length ≤ q
  · have hz := hZ.out (by omega)
    rw [hz]
    clear hZ hD
    rw [hn1] at hqn ⊢
    have hn1' : n1 ≤ 140737488355328 := by omega
    clear hn1 hq hr
    have hm' : (m : Int) ≤ 1000000000 := by omega
    generalize (m : Int) = mi at *
    go_enter Try.func66, Try.ntmps66
    go_wp2_with (with_reducible refine G.any_mark _ ?_; (try generalize Array.size (World.heap (G.w _)) = bk); (try dsimp only [List.set_cons_zero, List.set_cons_succ]); (try clear g); intro g)
    go_ret
    exact ⟨none, 0, _, by simp only [limbs_zero]; rfl, by simp only [limbs_zero]; exact Frag.Sl.nil _ _, g.none⟩
  · obtain ⟨n, hn⟩ : ∃ n : Nat, n1 - q = n := ⟨_, rfl⟩
    have hqn' : q < n1 := by omega
    have HQ3 : Hid (decide (n1 ≤ q) = false) := Lib.hid (by rw [decide_eq_false_iff_not]; omega)
    have hmk : ∀ w, (Instr.makeSlice 24 (.int .i64 ((n1 : Int) - (q : Int))) (.int .i64 ((n1 : Int) - (q : Int)))).run Try.prog w = .ok (.slice (some ⟨w.heap.size, 0, none⟩) n n) (w.alloc (.cells (u32s (List.replicate n 0)).toArray 30)) := by
      intro w
      have := make_nat n (by omega) w
      rw [show (n1 : Int) - (q : Int) = (n : Int) by omega]
      exact this
    have hn' : n1 ≤ n + q := by omega
    have hn'' : n + q ≤ n1 := by omega
    have ha1 : l.length ≤ n1 := by omega
    have ha2 : n1 ≤ l.length := by omega
    rw [hn1]
    have hn1' : n1 ≤ 1000000000 := by omega
    clear hn1 hq hr hZ hn hqn hl
    have hm' : (m : Int) ≤ 1000000000 := by omega
    rw [hD.out]
    clear hm hD
    generalize (m : Int) = mi at *
    go_enter Try.func66, Try.ntmps66
    go_wp2_with (with_reducible refine G.any_mark _ ?_; (try generalize Array.size (World.heap (G.w _)) = bk); (try dsimp only [List.set_cons_zero, List.set_cons_succ]); (try clear g); intro g)
    simp only [HQ3.out]
    go_loopw [32] (fun i wr => ∃ (k : Nat) (pre : List Nat), i = .int .i64 k ∧ k ≤ n ∧ pre.length = k ∧ Ok pre ∧ val pre = val (l.drop q) / 2 ^ r % 4294967296 ^ k ∧ ∃ g : G w [] [(bk, 30, u32s (pre ++ List.replicate (n - k) 0))] [heapOf w], wr = g.w) (fun i _ => n - (intOf i).toNat)
    case atStart => exact ⟨0, [], rfl, Nat.zero_le _, rfl, Ok.nil, by simp [val, Nat.mod_one], g, rfl⟩
    case round =>
      clear g hmk
      obtain ⟨k, pre, rfl, hk, hp, hok, hv, g, rfl⟩ := hrel
      have HP := Lib.hid hp
      have HV := Lib.hid hv
      clear hp hv
      by_cases hk2 : k < n
      · obtain ⟨b, o, rfl, hcell⟩ := lim_cells h.lim (by omega)
        have e0 := Lib.hid (hcell (k + q) (by omega))
        clear hcell
        have hx := h.ok.getD (k + q)
        have hy := h.ok.getD (k + q + 1)
        have hpl := u32s_zero_at HP.out hk2
        have dl := down_limb (h.ok.drop q) k r hr32
        have ed1 : (l.drop q).getD k 0 = l.getD (k + q) 0 := by rw [List.getD_eq_getElem?_getD, List.getElem?_drop, Nat.add_comm, ← List.getD_eq_getElem?_getD]
        have ed2 : (l.drop q).getD (k + 1) 0 = l.getD (k + q + 1) 0 := by rw [List.getD_eq_getElem?_getD, List.getElem?_drop, show q + (k + 1) = k + q + 1 by omega, ← List.getD_eq_getElem?_getD]
        rw [ed1, ed2] at dl
        have st := Lib.hid (low_step HP.out HV.out dl)
        have hq := Lib.hid (set_zeros' HP.out hk2 ((l.getD (k + q) 0 + 4294967296 * l.getD (k + q + 1) 0) / 2 ^ r % 4294967296))
        have CL := Lib.hid (fun w (hw : SlW w (some ⟨b, o, none⟩) c l) => limb_any (some ⟨b, o, none⟩) c l (k + q + 1) w hw (by omega))
        have hr : (l.getD (k + q) 0 + 4294967296 * l.getD (k + q + 1) 0) / 2 ^ r % 4294967296 < 4294967296 := Nat.mod_lt _ (by decide)
        clear dl ed1 ed2
        generalize l.getD (k + q) 0 = x at *
        generalize l.getD (k + q + 1) 0 = y at *
        have hor : bits .or .u64 (IntKind.u64.wrap (IntKind.u64.wrap (y : Int) * 4294967296)) (IntKind.u64.wrap (x : Int)) = ((x + 4294967296 * y : Nat) : Int) := by
          rw [show IntKind.u64.wrap (y : Int) = (y : Int) by rw [IntKind.wrap_u64]; omega, show IntKind.u64.wrap (x : Int) = (x : Int) by rw [IntKind.wrap_u64]; omega]
          rw [show IntKind.u64.wrap ((y : Int) * 4294967296) = ((4294967296 * y : Nat) : Int) by rw [IntKind.wrap_u64]; omega, K3.or64_comm, K3.or64_add _ _ 32 (by omega) (by omega) (by omega) (by omega), Nat.add_comm]
        have ht : x + 4294967296 * y < 18446744073709551616 := by omega
        obtain ⟨t, htt⟩ : ∃ t, x + 4294967296 * y = t := ⟨_, rfl⟩
        rw [htt] at hor ht st hq hr
        clear htt
        obtain ⟨z, hz⟩ : ∃ z, t / 2 ^ r % 4294967296 = z := ⟨_, rfl⟩
        rw [hz] at st hq hr
        have HE : Hid (IntKind.u32.wrap (bits .or .u64 (IntKind.u64.wrap (IntKind.u64.wrap (y : Int) * 4294967296)) (IntKind.u64.wrap (x : Int)) / 2 ^ r) = (z : Int)) := Lib.hid (by
          rw [hor, ← hz, show (t : Int) / 2 ^ r = ((t / 2 ^ r : Nat) : Int) by rw [Int.natCast_ediv, Int.natCast_pow]; rfl, IntKind.wrap_u32]
          omega)
        clear hz hor ht
        have hi1 : (k : Int) + (q : Int) < (n1 : Int) := by omega
        have hi2 : (k : Int) < (n : Int) := by omega
        have hi3 : (0 : Int) ≤ (k : Int) + (q : Int) := by omega
        have hi4 : ¬ ((k : Int) + (q : Int) < 0) := by omega
        obtain ⟨j, hj⟩ : ∃ j : Nat, k + q = j := ⟨_, rfl⟩
        have hw1 : IntKind.i64.wrap ((k : Int) + (q : Int)) = (j : Int) := by rw [IntKind.wrap_i64]; omega
        have hw2 : IntKind.i64.wrap ((j : Int) + 1) = (j : Int) + 1 := by rw [IntKind.wrap_i64]; omega
        rw [hj] at e0
        have CL : Hid (∀ w, SlW w (some ⟨b, o, none⟩) c l → Calls Try.prog 76 #[.slice (some ⟨b, o, none⟩) n1 c, .int .i64 ((j : Int) + 1)] w fun e w' => e = .returned (.int .u32 ((y : Nat) : Int)) ∧ w = w') := Lib.hid (fun w hw => by
          have := CL.out w hw
          rwa [show ((k + q + 1 : Nat) : Int) = (j : Int) + 1 by omega, show l.length = n1 by omega] at this)
        have hr0 : ¬ ((r : Int) < 0) := by omega
        have hr1 : (0 : Int) ≤ (r : Int) := by omega
        have hj1 : j < n1 := by omega
        have hj2 : (j : Int) < (n1 : Int) := by omega
        go_wp2_with (with_reducible refine G.any_mark _ ?_; (try generalize Array.size (World.heap (G.w _)) = bk); (try dsimp only [List.set_cons_zero, List.set_cons_succ]); (try clear g); intro g)
        go_region_held3 (fun w' => w'.cell? ⟨b, o + j, none⟩ = some (.int .u32 ((x : Nat) : Int))) (exact e0.out _ _ _ _ _ (by simp)) ((go_at_call 76; refine (CL.out _ (G.sl _ (by simp) h)).mono ?_; rintro e w1 ⟨rfl, rfl⟩))
        ((try simp only [G.drew_eq, G.drewN_eq]); (refine G.any_mark _ ?_; (try generalize Array.size (World.heap (G.w _)) = bk); (try dsimp only [List.set_cons_zero, List.set_cons_succ]); (try clear g); intro g))
        go_wp2_with (with_reducible refine G.any_mark _ ?_; (try generalize Array.size (World.heap (G.w _)) = bk); (try dsimp only [List.set_cons_zero, List.set_cons_succ]); (try clear g); intro g)
        obtain ⟨g2, hg2⟩ := g.as (by rw [HE.out, u32s_set, hq.out])
        exact ⟨⟨k + 1, pre ++ [z], by go_num, by omega, by rw [List.length_append, HP.out]; rfl, hok.append (Ok.cons hr Ok.nil), st.out, g2, hg2⟩, by simp [intOf]; omega⟩
      · obtain rfl : k = n := by omega
        have e1 := down_end (h.ok.drop q) (n := k) (by rw [List.length_drop]; omega) HV.out
        obtain ⟨g2, hg2⟩ := g.as (M' := [(bk, 30, u32s pre)]) (by rw [Nat.sub_self, List.replicate_zero, List.append_nil])
        rw [hg2]
        clear hg2 g
        revert g2
        intro g
        have E1 := Lib.hid e1
        clear e1
        have hp := HP.out
        clear HP
        subst hp
        have hsl : SlW g.w (some ⟨bk, 0, none⟩) pre.length pre := (sl_blk (Nat.le_refl _) (by omega) hok).at (blkF_sub g.blk0)
        go_wp2_with (with_reducible refine G.any_mark _ ?_; (try generalize Array.size (World.heap (G.w _)) = bk); (try dsimp only [List.set_cons_zero, List.set_cons_succ]); (try clear g); intro g)
        refine (trim_any _ _ pre _ hsl).mono ?_
        rintro e w1 ⟨rfl, hb⟩
        obtain ⟨g1, rfl⟩ := G.call_ex _ hb
        clear hb hsl g
        revert g1
        intro g
        go_wp2_with (with_reducible refine G.any_mark _ ?_; (try generalize Array.size (World.heap (G.w _)) = bk); (try dsimp only [List.set_cons_zero, List.set_cons_succ]); (try clear g); intro g)
        go_ret
        exact rnat_end g (List.mem_cons_self ..) hok (Nat.le_refl _) (by omega) E1.out
end Go.Proofs.Ytfifcpgjcgoinaa
