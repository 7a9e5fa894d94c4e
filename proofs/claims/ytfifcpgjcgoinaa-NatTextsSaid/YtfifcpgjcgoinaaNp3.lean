/- Plain facts on limbs. No conditions. -/
import Derived.Test.YtfifcpgjcgoinaaNp2
set_option linter.unusedVariables false
set_option linter.unusedSimpArgs false
namespace Go.Proofs.Ytfifcpgjcgoinaa.NL
open Go
theorem drop_set_same (l : List Nat) (o i x : Nat) : (l.set (o + i) x).drop o = (l.drop o).set i x := by
  rw [List.drop_set]
  rw [if_neg (by omega), show o + i - o = i by omega]
theorem take_set_same (l : List Nat) (i x : Nat) : (l.set i x).take i = l.take i := by
  rw [List.take_set_of_le (Nat.le_refl _)]
theorem getD_drop (l : List Nat) (o i : Nat) : (l.drop o).getD i 0 = l.getD (o + i) 0 := by
  rw [List.getD_eq_getElem?_getD, List.getD_eq_getElem?_getD, List.getElem?_drop]
theorem getD_set_eq {l : List Nat} {i x : Nat} (h : i < l.length) : (l.set i x).getD i 0 = x := by
  rw [List.getD_eq_getElem?_getD, List.getElem?_set_self h]; rfl
/-- what 'take' has done after i limbs -/
structure Tk (out d : List Nat) (o t i c1 c2 : Nat) (out' : List Nat) : Prop where
  len : out'.length = out.length
  ok : Ok out'
  off : ∀ j, (j < o ∨ o + i ≤ j) → out'.getD j 0 = out.getD j 0
  hc1 : c1 = val (d.take i) * t / 4294967296 ^ i
  hc2 : c2 ≤ 1
  eq : val ((out'.drop o).take i) + val (d.take i) * t = val ((out.drop o).take i) + 4294967296 ^ i * (c1 + c2)
theorem Tk.start {out d : List Nat} {o t : Nat} (h : Ok out) : Tk out d o t 0 0 0 out :=
  ⟨rfl, h, fun _ _ => rfl, by simp [val], by omega, by simp [val]⟩
theorem Tk.carry {out d : List Nat} {o t i c1 c2 : Nat} {out' : List Nat} (h : Tk out d o t i c1 c2 out') (hd : Ok d) (ht : t < 4294967296) : c1 < 4294967296 := by
  rw [h.hc1]
  have b := val_lt (hd.take i)
  have : 4294967296 ^ (d.take i).length ≤ 4294967296 ^ i := Nat.pow_le_pow_right (by decide) (by rw [List.length_take]; omega)
  apply Nat.div_lt_of_lt_mul
  have h1 : val (d.take i) < 4294967296 ^ i := by omega
  rcases Nat.eq_zero_or_pos t with h0 | h0
  · subst h0
    have := Nat.pow_pos (n := i) (show 0 < 4294967296 by decide)
    rw [Nat.mul_zero]
    omega
  · calc val (d.take i) * t < 4294967296 ^ i * t := Nat.mul_lt_mul_of_pos_right h1 h0
      _ ≤ 4294967296 ^ i * 4294967296 := Nat.mul_le_mul_left _ (by omega)
theorem Tk.step {out d : List Nat} {o t i c1 c2 : Nat} {out' : List Nat} (h : Tk out d o t i c1 c2 out') (hd : Ok d) (ht : t < 4294967296) (hi : o + i < out.length) :
    Tk out d o t (i + 1) ((d.getD i 0 * t + 0 + c1) / 4294967296) (brw (out.getD (o + i) 0) ((d.getD i 0 * t + 0 + c1) % 4294967296) c2)
      (out'.set (o + i) ((out.getD (o + i) 0 + 4294967296 - (d.getD i 0 * t + 0 + c1) % 4294967296 - c2) % 4294967296)) := by
  have hx : out.getD (o + i) 0 < 4294967296 := by rw [← h.off _ (.inr (Nat.le_refl _))]; exact h.ok.getD _
  have hm : (d.getD i 0 * t + 0 + c1) % 4294967296 < 4294967296 := Nat.mod_lt _ (by decide)
  have hb := brw_eq (out.getD (o + i) 0) ((d.getD i 0 * t + 0 + c1) % 4294967296) c2 hx hm h.hc2
  have hr : (out.getD (o + i) 0 + 4294967296 - (d.getD i 0 * t + 0 + c1) % 4294967296 - c2) % 4294967296 < 4294967296 := Nat.mod_lt _ (by decide)
  have hmd := Nat.mod_add_div (d.getD i 0 * t + 0 + c1) 4294967296
  have hc1 := h.hc1
  have heq := h.eq
  have hl := h.len
  refine ⟨by rw [List.length_set]; exact h.len, h.ok.set _ hr, ?_, ?_, brw_le _ _ _, ?_⟩
  · intro j hj
    rw [getD_set_ne (by omega)]
    exact h.off j (by omega)
  · rw [hc1, val_take_getD, Nat.pow_succ, ← Nat.div_div_eq_div_mul, Nat.add_mul, Nat.mul_assoc, Nat.add_mul_div_left _ _ (Nat.pow_pos (by decide)), Nat.add_zero, Nat.add_comm]
  · rw [drop_set_same, val_take_getD, take_set_same, getD_set_eq (by rw [List.length_drop]; omega), val_take_getD d, val_take_getD (out.drop o), getD_drop]
    generalize (out.getD (o + i) 0 + 4294967296 - (d.getD i 0 * t + 0 + c1) % 4294967296 - c2) % 4294967296 = r at *
    generalize brw (out.getD (o + i) 0) ((d.getD i 0 * t + 0 + c1) % 4294967296) c2 = c2' at *
    generalize (d.getD i 0 * t + 0 + c1) % 4294967296 = m at *
    generalize (d.getD i 0 * t + 0 + c1) / 4294967296 = c1' at *
    generalize out.getD (o + i) 0 = x at *
    have key : c1 + c2 + r + d.getD i 0 * t = x + 4294967296 * (c1' + c2') := by omega
    have k2 := congrArg (4294967296 ^ i * ·) key
    simp only [Nat.mul_add] at k2
    rw [Nat.add_mul, Nat.mul_assoc, Nat.pow_succ, Nat.mul_assoc]
    simp only [Nat.mul_add] at heq ⊢
    omega
/-- the end of 'take' -/
theorem Tk.stop {out d : List Nat} {o t k c1 c2 : Nat} {out' : List Nat} (h : Tk out d o t k c1 c2 out') (hd : Ok d) (ht : t < 4294967296) (hk : d.length < k) (ho : Ok out) :
    (c2 = 0 ∧ val d * t ≤ val ((out.drop o).take k) ∧ val ((out'.drop o).take k) = val ((out.drop o).take k) - val d * t) ∨ (c2 = 1 ∧ val ((out.drop o).take k) < val d * t) := by
  have hc1 := h.hc1
  have heq := h.eq
  have hc2 := h.hc2
  rw [val_take_all (l := d) (k := k) (by omega)] at hc1 heq
  have b := val_lt hd
  have hDt : val d * t < 4294967296 ^ k := by
    have h1 : val d * t ≤ val d * 4294967296 := Nat.mul_le_mul_left _ (by omega)
    have h2 : val d * 4294967296 < 4294967296 ^ d.length * 4294967296 := Nat.mul_lt_mul_of_pos_right b (by decide)
    rw [← Nat.pow_succ] at h2
    have h3 : 4294967296 ^ (d.length + 1) ≤ 4294967296 ^ k := Nat.pow_le_pow_right (by decide) (by omega)
    omega
  rw [Nat.div_eq_of_lt hDt] at hc1
  subst hc1
  have hp : val ((out'.drop o).take k) < 4294967296 ^ k := by
    have := val_lt ((h.ok.drop o).take k)
    have h3 : 4294967296 ^ ((out'.drop o).take k).length ≤ 4294967296 ^ k := Nat.pow_le_pow_right (by decide) (by rw [List.length_take]; omega)
    omega
  rw [Nat.zero_add] at heq
  have : c2 = 0 ∨ c2 = 1 := by omega
  rcases this with rfl | rfl
  · left; refine ⟨rfl, by omega, by omega⟩
  · right; refine ⟨rfl, by omega⟩
theorem ext_getD {l m : List Nat} (hl : l.length = m.length) (h : ∀ j, l.getD j 0 = m.getD j 0) : l = m := by
  apply List.ext_getElem hl
  intro j h1 h2
  have := h j
  rwa [List.getD_eq_getElem?_getD, List.getD_eq_getElem?_getD, List.getElem?_eq_getElem h1, List.getElem?_eq_getElem h2] at this
/-- laid back -/
theorem lay_back {out out' : List Nat} {o k : Nat} (hl : out'.length = out.length) (hk : o + k ≤ out.length) (h : ∀ j, (j < o ∨ o + k ≤ j) → out'.getD j 0 = out.getD j 0) :
    out'.take o ++ ((out.drop o).take k ++ out'.drop (o + k)) = out := by
  have e1 : out'.take o = out.take o := by
    apply ext_getD (by simp [hl])
    intro j
    rcases Nat.lt_or_ge j o with hj | hj
    · rw [List.getD_eq_getElem?_getD, List.getD_eq_getElem?_getD, List.getElem?_take_of_lt hj, List.getElem?_take_of_lt hj, ← List.getD_eq_getElem?_getD, ← List.getD_eq_getElem?_getD]
      exact h j (.inl hj)
    · rw [List.getD_eq_getElem?_getD, List.getD_eq_getElem?_getD, List.getElem?_eq_none (by simp; omega), List.getElem?_eq_none (by simp; omega)]
  have e2 : out'.drop (o + k) = out.drop (o + k) := by
    apply ext_getD (by simp [hl])
    intro j
    rw [getD_drop, getD_drop]
    exact h _ (.inr (by omega))
  rw [e1, e2, ← List.drop_drop, List.take_append_drop, List.take_append_drop]
/-- long division: j limbs of the quotient are still to be found -/
structure Dv (V D n m j : Nat) (r q : List Nat) : Prop where
  rlen : r.length = n + m
  rok : Ok r
  qlen : q.length = m
  qok : Ok q
  qz : ∀ i, i < j → q.getD i 0 = 0
  eq : val r + val q * D = V
  lt : val (r.drop j) < D
theorem Dv.start {V D n m : Nat} {r : List Nat} (h1 : r.length = n + m) (h2 : Ok r) (h3 : val r = V) (h4 : V < 4294967296 ^ m * D) : Dv V D n m m r (List.replicate m 0) :=
  ⟨h1, h2, by simp, Ok.zeros _, fun i _ => by simp [List.getElem?_replicate]; split <;> rfl, by rw [val_zeros]; omega, by
    rw [← val_div r h2, h3]
    exact Nat.div_lt_of_lt_mul h4⟩
/-- the limbs that are divided -/
theorem Dv.seg {V D n m j : Nat} {r q : List Nat} (h : Dv V D n m (j + 1) r q) (hD : D ≤ 4294967296 ^ n) :
    val ((r.drop j).take (n + 1)) = val (r.drop j) ∧ val (r.drop j) < 4294967296 * D ∧ val (r.drop (j + (n + 1))) = 0 := by
  have e := val_drop_getD r j
  have hl := h.lt
  have hx := h.rok.getD j
  have h1 : val (r.drop j) < 4294967296 * D := by omega
  have h2 : 4294967296 * D ≤ 4294967296 ^ (n + 1) := by
    rw [Nat.pow_succ, Nat.mul_comm]; exact Nat.mul_le_mul_right _ hD
  refine ⟨?_, h1, ?_⟩
  · rw [← val_mod _ (h.rok.drop j), Nat.mod_eq_of_lt (by omega)]
  · rw [← List.drop_drop, ← val_div _ (h.rok.drop j), Nat.div_eq_of_lt (by omega)]
/-- the guess from the two highest limbs is not too small -/
theorem Dv.guess {V n m j : Nat} {r q d : List Nat} (h : Dv V (val d) (n + 1) m (j + 1) r q) (hd : Ok d) (hn : d.length = n + 1) (htop : 0 < d.getD n 0) :
    val (r.drop j) / val d ≤ (r.getD (j + (n + 1)) 0 * 4294967296 + r.getD (j + n) 0) / d.getD n 0 ∧ val (r.drop j) / val d < 4294967296 := by
  have hD : val d ≤ 4294967296 ^ (n + 1) := by have := val_lt hd; rw [hn] at this; omega
  obtain ⟨e1, e2, e3⟩ := h.seg hD
  have hd1 : 4294967296 ^ n * d.getD n 0 ≤ val d := by
    have := val_split d n (by omega)
    rw [val_drop_getD] at this
    have h2 : 4294967296 ^ n * d.getD n 0 ≤ 4294967296 ^ n * (d.getD n 0 + 4294967296 * val (d.drop (n + 1))) := Nat.mul_le_mul_left _ (by omega)
    omega
  have hdp : 0 < val d := Nat.lt_of_lt_of_le (Nat.mul_pos (Nat.pow_pos (by decide)) htop) hd1
  refine ⟨guess_ge (R := val (r.drop j)) htop hd1 ?_ (Nat.div_mul_le_self _ _), quot_lt e2⟩
  have s := val_append ((r.drop j).take n) ((r.drop j).drop n)
  rw [List.take_append_drop] at s
  rw [List.drop_drop, val_drop_getD r (j + n), val_drop_getD r (j + n + 1), show j + n + 1 + 1 = j + (n + 1 + 1) by omega, e3] at s
  have b := val_lt ((h.rok.drop j).take n)
  have hlen : 4294967296 ^ ((r.drop j).take n).length ≤ 4294967296 ^ n := Nat.pow_le_pow_right (by decide) (by rw [List.length_take]; omega)
  have hlen2 : ((r.drop j).take n).length = n ∨ val ((r.drop j).drop n) = 0 := by
    rcases Nat.lt_or_ge (r.drop j).length n with hh | hh
    · right; rw [List.drop_of_length_le (by omega)]; rfl
    · left; rw [List.length_take]; omega
  rw [show j + (n + 1) = j + n + 1 by omega]
  rcases hlen2 with hh | hh
  · rw [hh] at s b
    have : 4294967296 ^ n * (r.getD (j + n) 0 + 4294967296 * (r.getD (j + n + 1) 0 + 4294967296 * 0)) = 4294967296 ^ n * (r.getD (j + n + 1) 0 * 4294967296 + r.getD (j + n) 0) := by congr 1; omega
    rw [s, this, Nat.mul_add (4294967296 ^ n) (r.getD (j + n + 1) 0 * 4294967296 + r.getD (j + n) 0) 1, Nat.mul_one]
    omega
  · rw [List.drop_drop, val_drop_getD, val_drop_getD r (j + n + 1), show j + n + 1 + 1 = j + (n + 1 + 1) by omega, e3] at hh
    rw [hh, Nat.mul_zero] at s
    have h5 : 4294967296 ^ n * 1 ≤ 4294967296 ^ n * (r.getD (j + n + 1) 0 * 4294967296 + r.getD (j + n) 0 + 1) := Nat.mul_le_mul_left _ (by omega)
    omega
theorem Dv.next {V D n m j : Nat} {r q r' : List Nat} {x : Nat} (h : Dv V D n m (j + 1) r q) (hD : D ≤ 4294967296 ^ n) (hj : j < m) (hx : x < 4294967296) (hxe : x = val (r.drop j) / D) (hDp : 0 < D)
    (hl : r'.length = r.length) (hok : Ok r') (ho : ∀ i, (i < j ∨ j + (n + 1) ≤ i) → r'.getD i 0 = r.getD i 0) (hv : val ((r'.drop j).take (n + 1)) = val ((r.drop j).take (n + 1)) - D * x) :
    Dv V D n m j r' (q.set j x) := by
  obtain ⟨e1, e2, e3⟩ := h.seg hD
  have hrl := h.rlen
  have hql := h.qlen
  have hmx : D * x ≤ val (r.drop j) := by rw [hxe]; exact Nat.mul_div_le _ _
  have hmod : val (r.drop j) - D * x < D := by
    have := Nat.mod_lt (val (r.drop j)) hDp
    have h2 := Nat.div_add_mod (val (r.drop j)) D
    rw [← hxe] at h2
    omega
  have ed : r'.drop (j + (n + 1)) = r.drop (j + (n + 1)) := by
    apply ext_getD (by simp [hl])
    intro i
    rw [getD_drop, getD_drop]
    exact ho _ (.inr (by omega))
  have et : r'.take j = r.take j := by
    apply ext_getD (by simp [hl])
    intro i
    rcases Nat.lt_or_ge i j with hi | hi
    · rw [List.getD_eq_getElem?_getD, List.getD_eq_getElem?_getD, List.getElem?_take_of_lt hi, List.getElem?_take_of_lt hi, ← List.getD_eq_getElem?_getD, ← List.getD_eq_getElem?_getD]
      exact ho i (.inl hi)
    · rw [List.getD_eq_getElem?_getD, List.getD_eq_getElem?_getD, List.getElem?_eq_none (by simp; omega), List.getElem?_eq_none (by simp; omega)]
  have ev : val (r'.drop j) = val (r.drop j) - D * x := by
    have s := val_append ((r'.drop j).take (n + 1)) ((r'.drop j).drop (n + 1))
    rw [List.take_append_drop, List.drop_drop, ed, e3, hv, e1] at s
    omega
  refine ⟨by omega, hok, by rw [List.length_set]; exact h.qlen, h.qok.set _ hx, ?_, ?_, by omega⟩
  · intro i hi
    rw [getD_set_ne (by omega)]
    exact h.qz i (by omega)
  · have heq := h.eq
    have hq := val_set' (out := q) (i := j) (by omega) x
    rw [h.qz j (by omega), Nat.mul_zero, Nat.add_zero] at hq
    rw [hq]
    have s1 := val_split r j (by omega)
    have s2 := val_split r' j (by omega)
    rw [et, ev, Nat.mul_sub] at s2
    have h6 : 4294967296 ^ j * (D * x) ≤ 4294967296 ^ j * val (r.drop j) := Nat.mul_le_mul_left _ hmx
    rw [Nat.add_mul, Nat.mul_assoc, Nat.mul_comm x D]
    omega
theorem Dv.stop {a b u n m : Nat} {r q : List Nat} (h : Dv (a * 2 ^ u) (b * 2 ^ u) n m 0 r q) (hb : 0 < b) : val q = a / b ∧ val r = a % b * 2 ^ u := by
  have heq := h.eq
  have hlt := h.lt
  rw [List.drop_zero] at hlt
  have hp := Nat.two_pow_pos u
  have hbp : 0 < b * 2 ^ u := Nat.mul_pos hb hp
  have e1 : a * 2 ^ u / (b * 2 ^ u) = val q := by
    rw [← heq, Nat.mul_comm (val q), Nat.add_mul_div_left _ _ hbp, Nat.div_eq_of_lt hlt, Nat.zero_add]
  have e2 : a * 2 ^ u % (b * 2 ^ u) = val r := by
    rw [← heq, Nat.mul_comm (val q), Nat.add_mul_mod_self_left, Nat.mod_eq_of_lt hlt]
  rw [Nat.mul_div_mul_right _ _ hp] at e1
  rw [Nat.mul_mod_mul_right] at e2
  exact ⟨e1.symm, e2.symm⟩
/-- the shift that makes the highest bit 1 -/
theorem norm_up {b n : Nat} (hb : b ≠ 0) (hn : (limbs b).length = n + 1) : ∃ u, u = 32 - nb ((limbs b).getD n 0) ∧ u < 32 ∧ (limbs (b * 2 ^ u)).length = n + 1 ∧ 2 ^ (32 * (n + 1) - 1) ≤ b * 2 ^ u := by
  have h1 := nb_top hn
  have ht := trim_limbs b n hn
  have h2 := nb_pos ht
  have h3 : nb ((limbs b).getD n 0) ≤ 32 := (nb_le _ _).2 (by have := (ok_limbs b).getD n; omega)
  refine ⟨_, rfl, by omega, ?_, ?_⟩
  · have hlt : b * 2 ^ (32 - nb ((limbs b).getD n 0)) < 4294967296 ^ (n + 1) := by
      have := nb_lt b
      rw [pow32]
      have h4 : 2 ^ (32 * (n + 1)) = 2 ^ nb b * 2 ^ (32 - nb ((limbs b).getD n 0)) := by rw [← Nat.pow_add]; congr 1; omega
      rw [h4]
      exact Nat.mul_lt_mul_of_pos_right this (Nat.two_pow_pos _)
    have l1 := (limbs_len (b * 2 ^ (32 - nb ((limbs b).getD n 0))) (n + 1)).2 hlt
    have l2 := limbs_len_mono (m := b) (n := b * 2 ^ (32 - nb ((limbs b).getD n 0))) (Nat.le_mul_of_pos_right _ (Nat.two_pow_pos _))
    omega
  · have := nb_ge hb
    have h4 : 2 ^ (32 * (n + 1) - 1) = 2 ^ (nb b - 1) * 2 ^ (32 - nb ((limbs b).getD n 0)) := by rw [← Nat.pow_add]; congr 1; omega
    rw [h4]
    exact Nat.mul_le_mul_right _ this
theorem norm_lt {a b u n m : Nat} (hu : u < 32) (hD : 2 ^ (32 * (n + 1) - 1) ≤ b * 2 ^ u) (hm : (limbs a).length + 1 = n + 1 + m) : a * 2 ^ u < 4294967296 ^ m * (b * 2 ^ u) := by
  have h1 := (limbs_len a _).1 (Nat.le_refl _)
  have h2 : a * 2 ^ u < 4294967296 ^ (limbs a).length * 2 ^ u := Nat.mul_lt_mul_of_pos_right h1 (Nat.two_pow_pos u)
  have h3 : 4294967296 ^ (limbs a).length * 2 ^ u ≤ 4294967296 ^ m * 2 ^ (32 * (n + 1) - 1) := by
    rw [pow32, pow32, ← Nat.pow_add, ← Nat.pow_add]
    exact Nat.pow_le_pow_right (by decide) (by omega)
  have h4 := Nat.mul_le_mul_left (4294967296 ^ m) hD
  omega
/-- the shifted number, with zeros behind it -/
theorem pad_limbs {a u k : Nat} (hu : u < 32) (hk : (limbs a).length + 1 = k) : (limbs (a * 2 ^ u)).length ≤ k := by
  have h1 := (limbs_len a _).1 (Nat.le_refl _)
  refine (limbs_len _ _).2 ?_
  have h2 : a * 2 ^ u < 4294967296 ^ (limbs a).length * 2 ^ u := Nat.mul_lt_mul_of_pos_right h1 (Nat.two_pow_pos u)
  have h3 : (2 : Nat) ^ u ≤ 2 ^ 32 := Nat.pow_le_pow_right (by decide) (by omega)
  have h4 := Nat.mul_le_mul_left (4294967296 ^ (limbs a).length) h3
  rw [← hk, Nat.pow_succ]
  omega
theorem val_pad (l : List Nat) (k : Nat) : val (l ++ List.replicate k 0) = val l := by rw [val_append, val_zeros, Nat.mul_zero, Nat.add_zero]
end Go.Proofs.Ytfifcpgjcgoinaa.NL
