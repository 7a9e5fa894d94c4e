/- Plain facts and contracts of functions of the program, out of walks. Their conditions stand ahead of each. -/
import Derived.Test.YtjdnpkicdmapnaaGreatDoorNm1
import Derived.Lib.BitFns
import Derived.Lib.ItoaNum
set_option linter.unusedVariables false
set_option linter.unusedSimpArgs false
set_option exponentiation.threshold 10000
namespace Go.Proofs.YtjdnpkicdmapnaaGreatDoor.NL
open Go
theorem frac_rn_le (s : Bool) {n d : Nat} (hd : d ≠ 0) : rn (frac s n d) ≤ n := by rw [frac_rn s hd]; exact Nat.div_le_self _ _
theorem frac_den_le (s : Bool) {n d : Nat} (hd : d ≠ 0) : (frac s n d).den ≤ d := by rw [frac_den s hd]; exact Nat.div_le_self _ _
/-- numerator and denominator have at most k bits -/
def Bd (k : Nat) (x : Rat) : Prop := rn x < 2 ^ k ∧ x.den < 2 ^ k
theorem Bd.mono {k j : Nat} {x : Rat} (h : Bd k x) (hk : k ≤ j) : Bd j x :=
  ⟨Nat.lt_of_lt_of_le h.1 (Nat.pow_le_pow_right (by decide) hk), Nat.lt_of_lt_of_le h.2 (Nat.pow_le_pow_right (by decide) hk)⟩
theorem Bd.frac (s : Bool) {n d k : Nat} (hd : d ≠ 0) (h1 : n < 2 ^ k) (h2 : d < 2 ^ k) : Bd k (frac s n d) :=
  ⟨Nat.lt_of_le_of_lt (frac_rn_le s hd) h1, Nat.lt_of_le_of_lt (frac_den_le s hd) h2⟩
theorem mul_pow_lt {a b k j : Nat} (h1 : a < 2 ^ k) (h2 : b < 2 ^ j) : a * b < 2 ^ (k + j) := by
  rw [Nat.pow_add]
  exact Nat.lt_of_le_of_lt (Nat.mul_le_mul (Nat.le_of_lt h1) (Nat.le_refl b)) (Nat.mul_lt_mul_of_pos_left h2 (Nat.two_pow_pos k))
theorem Bd.add {k j : Nat} {x y : Rat} (hx : Bd k x) (hy : Bd j y) : Bd (k + j + 1) (x + y) := by
  have a1 := mul_pow_lt hx.1 hy.2
  have a2 : rn y * x.den < 2 ^ (k + j) := by rw [Nat.mul_comm]; exact mul_pow_lt hx.2 hy.1
  have a3 := mul_pow_lt hx.2 hy.2
  have hz := Nat.mul_ne_zero x.den_nz y.den_nz
  have hp : 2 ^ (k + j + 1) = 2 * 2 ^ (k + j) := by rw [Nat.pow_succ, Nat.mul_comm]
  have key : ∃ s n, x + y = NL.frac s n (x.den * y.den) ∧ n < 2 ^ (k + j + 1) := by
    by_cases hs : rneg x = rneg y
    · refine ⟨rneg y, rn x * y.den + rn y * x.den, ?_, by omega⟩
      have := frac_add_same (rneg y) (n1 := rn x) (n2 := rn y) x.den_nz y.den_nz
      rw [frac_self y] at this
      rw [← this, ← hs, frac_self x]
    · by_cases h : rn x * y.den < rn y * x.den
      · refine ⟨rneg y, rn y * x.den - rn x * y.den, ?_, by omega⟩
        have := frac_add_lt hs x.den_nz y.den_nz h
        rw [← this, frac_self x, frac_self y]
      · refine ⟨rneg x, rn x * y.den - rn y * x.den, ?_, by omega⟩
        have := frac_add_ge hs x.den_nz y.den_nz h
        rw [← this, frac_self x, frac_self y]
  obtain ⟨s, n, e, hn⟩ := key
  rw [e]
  exact Bd.frac s hz hn (by omega)
theorem rn_neg (x : Rat) : rn (-x) = rn x := by unfold rn; rw [Rat.neg_num, Int.natAbs_neg]
theorem Bd.neg {k : Nat} {x : Rat} (h : Bd k x) : Bd k (-x) := ⟨by rw [rn_neg]; exact h.1, by rw [Rat.neg_den]; exact h.2⟩
theorem Bd.sub {k j : Nat} {x y : Rat} (hx : Bd k x) (hy : Bd j y) : Bd (k + j + 1) (x - y) := by rw [Rat.sub_eq_add_neg]; exact hx.add hy.neg
theorem Bd.mul {k j : Nat} {x y : Rat} (hx : Bd k x) (hy : Bd j y) : Bd (k + j) (x * y) := by
  have := frac_mul (rneg x) (rneg y) (rn x) x.den (rn y) y.den
  rw [frac_self x, frac_self y] at this
  rw [this]
  exact Bd.frac _ (Nat.mul_ne_zero x.den_nz y.den_nz) (mul_pow_lt hx.1 hy.1) (mul_pow_lt hx.2 hy.2)
theorem Bd.inv {k : Nat} {x : Rat} (hx : Bd k x) (h0 : rn x ≠ 0) : Bd k x⁻¹ := by
  have := frac_inv (rneg x) (n := rn x) (d := x.den) h0
  rw [frac_self x] at this
  rw [this]
  exact Bd.frac _ h0 hx.2 hx.1
theorem Bd.div {k j : Nat} {x y : Rat} (hx : Bd k x) (hy : Bd j y) (h0 : rn y ≠ 0) : Bd (k + j) (x / y) := by rw [Rat.div_def]; exact hx.mul (hy.inv h0)
/-- the sign -/
def sgz (x : Rat) : Int := if rneg x = true then -1 else if rn x ≠ 0 then 1 else 0
theorem rneg_iff (x : Rat) : rneg x = true ↔ x < 0 := by
  unfold rneg; rw [decide_eq_true_iff, ← Rat.not_le, ← Rat.num_nonneg]; omega
theorem sgz_cases (x : Rat) : (x < 0 ∧ sgz x = -1 ∧ rneg x = true ∧ rn x ≠ 0) ∨ (x = 0 ∧ sgz x = 0 ∧ rneg x = false ∧ rn x = 0) ∨ (0 < x ∧ sgz x = 1 ∧ rneg x = false ∧ rn x ≠ 0) := by
  unfold sgz
  by_cases h : rneg x = true
  · exact .inl ⟨(rneg_iff x).1 h, by rw [if_pos h], h, rneg_ne h⟩
  · have hn : ¬ x < 0 := fun hx => h ((rneg_iff x).2 hx)
    by_cases h0 : rn x = 0
    · exact .inr (.inl ⟨(rn_zero_iff x).1 h0, by rw [if_neg h, if_neg (by omega)], by simpa using h, h0⟩)
    · have : x ≠ 0 := fun hx => h0 ((rn_zero_iff x).2 hx)
      refine .inr (.inr ⟨?_, by rw [if_neg h, if_pos h0], by simpa using h, h0⟩)
      have := Rat.not_lt.1 hn
      grind
theorem sgz_neg (x : Rat) : sgz (-x) = -sgz x := by
  rcases sgz_cases x with ⟨h, e, _⟩ | ⟨h, e, _⟩ | ⟨h, e, _⟩ <;> rcases sgz_cases (-x) with ⟨h', e', _⟩ | ⟨h', e', _⟩ | ⟨h', e', _⟩ <;> rw [e, e'] <;> first | rfl | (exfalso; grind)
theorem rneg_neg (x : Rat) : rneg (-x) = (!rneg x && decide (rn x ≠ 0)) := by
  rcases sgz_cases x with ⟨h, _, r, z⟩ | ⟨h, _, r, z⟩ | ⟨h, _, r, z⟩ <;> rcases sgz_cases (-x) with ⟨h', _, r', _⟩ | ⟨h', _, r', _⟩ | ⟨h', _, r', _⟩ <;> rw [r, r'] <;> first | (exfalso; grind) | simp [z]
/-- rounding down of parts -/
def flq' (s : Bool) (n d : Nat) : Nat := if s = true ∧ n % d ≠ 0 then n / d + 1 else n / d
theorem rat_num (x : Rat) : x.num = if rneg x then -(rn x : Int) else (rn x : Int) := by
  unfold rneg rn
  by_cases h : x.num < 0
  · rw [if_pos (decide_eq_true h)]; omega
  · rw [if_neg (by simpa using h)]; omega
theorem floor_parts (x : Rat) : x.floor = if rneg x then -(flq' (rneg x) (rn x) x.den : Int) else (flq' (rneg x) (rn x) x.den : Int) := by
  rw [Rat.floor_def, rat_num x]
  have hd := x.den_nz
  generalize x.den = d at *
  generalize rn x = n at *
  cases rneg x
  · simp [flq']
  · simp only [if_true, flq', true_and]
    have hm := Nat.div_add_mod n d
    have hl := Nat.mod_lt n (Nat.pos_of_ne_zero hd)
    have hc : (d : Int) * ((n / d : Nat) : Int) = ((d * (n / d) : Nat) : Int) := by rw [Int.natCast_mul]
    by_cases h0 : n % d = 0
    · rw [if_neg (by omega)]
      refine ((Int.ediv_emod_unique (r := 0) (by omega)).2 ⟨?_, by omega, by omega⟩).1
      rw [Int.mul_neg, hc]; omega
    · rw [if_pos h0]
      refine ((Int.ediv_emod_unique (r := (d : Int) - ((n % d : Nat) : Int)) (by omega)).2 ⟨?_, by omega, by omega⟩).1
      rw [Int.mul_neg, Int.natCast_add, Int.mul_add, hc]; omega
theorem int_parts (z : Int) : rneg (z : Rat) = decide (z < 0) ∧ rn (z : Rat) = z.natAbs ∧ (z : Rat).den = 1 := by
  refine ⟨?_, ?_, ?_⟩
  · unfold rneg; rw [Rat.num_intCast]
  · unfold rn; rw [Rat.num_intCast]
  · exact Rat.den_intCast z
theorem floor_int (x : Rat) : rneg (x.floor : Rat) = (rneg x && decide (flq' (rneg x) (rn x) x.den ≠ 0)) ∧ rn (x.floor : Rat) = flq' (rneg x) (rn x) x.den ∧ (x.floor : Rat).den = 1 := by
  obtain ⟨a, b, c⟩ := int_parts x.floor
  rw [a, b, c, floor_parts x]
  generalize flq' (rneg x) (rn x) x.den = q
  cases rneg x
  · simp
  · simp only [if_true, Bool.true_and]
    refine ⟨?_, by omega, by simp⟩
    by_cases h : q = 0
    · subst h; rfl
    · rw [decide_eq_true (by omega), decide_eq_true (by omega)]
theorem Bd.floor {k : Nat} {x : Rat} (h : Bd k x) : Bd (k + 1) (x.floor : Rat) := by
  obtain ⟨_, b, c⟩ := floor_int x
  have h2 := Nat.two_pow_pos k
  have hp : 2 ^ (k + 1) = 2 * 2 ^ k := by rw [Nat.pow_succ, Nat.mul_comm]
  refine ⟨?_, by rw [c]; omega⟩
  rw [b]
  have := Nat.div_le_self (rn x) x.den
  have := h.1
  unfold flq'
  split <;> omega
/-- rounding of parts: the whole part of a number and one half -/
def rdq' (n d : Nat) : Nat := rn (frac false n d + frac false 1 2) / (frac false n d + frac false 1 2).den
def rndz (x : Rat) : Int := if rneg x then -(rdq' (rn x) x.den : Int) else (rdq' (rn x) x.den : Int)
theorem rnd_parts (x : Rat) : rneg ((rndz x : Int) : Rat) = (rneg x && decide (rdq' (rn x) x.den ≠ 0)) ∧ rn ((rndz x : Int) : Rat) = rdq' (rn x) x.den ∧ ((rndz x : Int) : Rat).den = 1 := by
  obtain ⟨a, b, c⟩ := int_parts (rndz x)
  rw [a, b, c]
  unfold rndz
  generalize rdq' (rn x) x.den = q
  cases rneg x
  · simp
  · simp only [if_true, Bool.true_and]
    refine ⟨?_, by omega, by simp⟩
    by_cases h : q = 0
    · subst h; rfl
    · rw [decide_eq_true (by omega), decide_eq_true (by omega)]
/-- the size of a number -/
theorem frac_abs (x : Rat) : frac false (rn x) x.den = if rneg x then -x else x := by
  by_cases h : rneg x = true
  · rw [if_pos h]
    have := frac_neg true (rn x) x.den
    have h2 := frac_self x
    rw [h] at h2
    rw [h2] at this
    exact this.symm
  · rw [if_neg h]
    have h2 := frac_self x
    rw [show rneg x = false by simpa using h] at h2
    exact h2
theorem frac_half : frac false 1 2 = 1 / 2 := by unfold frac; decide +kernel
theorem rdq_floor (x : Rat) : (rdq' (rn x) x.den : Int) = ((if rneg x then -x else x) + 1 / 2 : Rat).floor := by
  unfold rdq'
  rw [frac_abs x, frac_half]
  have hnn : ¬ ((if rneg x then -x else x) + 1 / 2 : Rat) < 0 := by
    have := rneg_iff x
    split <;> grind
  generalize ((if rneg x then -x else x) + 1 / 2 : Rat) = y at *
  have : rneg y = false := by
    have := rneg_iff y
    cases h : rneg y
    · rfl
    · exact absurd (this.1 h) hnn
  rw [Rat.floor_def, rat_num y, this]
  simp
/-- rounding differs by at most one half, and by one half away from zero only -/
theorem rnd_off (x : Rat) : ((rndz x : Int) : Rat) - x ≤ 1 / 2 ∧ -(1 / 2) ≤ ((rndz x : Int) : Rat) - x := by
  have h := rdq_floor x
  unfold rndz
  generalize (rdq' (rn x) x.den : Int) = q at *
  subst h
  have h1 := Rat.floor_le ((if rneg x then -x else x) + 1 / 2 : Rat)
  have h2 := Rat.lt_floor_add_one ((if rneg x then -x else x) + 1 / 2 : Rat)
  rw [Rat.intCast_add] at h2
  cases hr : rneg x
  · simp only [hr, Bool.false_eq_true, if_false] at h1 h2 ⊢
    generalize ((Rat.floor (x + 1 / 2) : Int) : Rat) = f at *
    have h2 : x + 1 / 2 < f + 1 := by simpa using h2
    constructor <;> grind
  · simp only [hr, if_true] at h1 h2 ⊢
    rw [Rat.intCast_neg]
    generalize ((Rat.floor (-x + 1 / 2) : Int) : Rat) = f at *
    have h2 : -x + 1 / 2 < f + 1 := by simpa using h2
    constructor <;> grind
theorem rnd_neg (x : Rat) : rndz (-x) = -rndz x := by
  unfold rndz
  rw [rn_neg, Rat.neg_den]
  rcases sgz_cases x with ⟨h, _, r, _⟩ | ⟨h, _, r, z⟩ | ⟨h, _, r, _⟩
  · have : rneg (-x) = false := by
      rcases sgz_cases (-x) with ⟨h', _, r', _⟩ | ⟨h', _, r', _⟩ | ⟨h', _, r', _⟩
      · exfalso; grind
      · exact r'
      · exact r'
    rw [r, this]; simp
  · subst h
    have h2 := rdq_floor 0
    have h3 : ((if rneg 0 = true then -0 else 0) + 1 / 2 : Rat).floor = 0 := by decide +kernel
    rw [h3] at h2
    rw [h2]
    split <;> split <;> rfl
  · have : rneg (-x) = true := (rneg_iff _).2 (by grind)
    rw [r, this]; simp
/-- the rounding of an integer and one half -/
theorem rnd_half (f : Int) : ((rndz ((f : Rat) + 1 / 2) : Int) : Rat) - ((f : Rat) + 1 / 2) = if rneg ((f : Rat) + 1 / 2) then -(1 / 2) else 1 / 2 := by
  have h := rdq_floor ((f : Rat) + 1 / 2)
  unfold rndz
  generalize (rdq' (rn ((f : Rat) + 1 / 2)) ((f : Rat) + 1 / 2).den : Int) = q at *
  subst h
  cases hr : rneg ((f : Rat) + 1 / 2)
  · simp only [Bool.false_eq_true, if_false]
    have e : ((f : Rat) + 1 / 2 + 1 / 2) = ((f + 1 : Int) : Rat) := by rw [Rat.intCast_add]; grind
    rw [e, Rat.floor_intCast, Rat.intCast_add]
    grind
  · simp only [if_true]
    have e : (-((f : Rat) + 1 / 2) + 1 / 2) = ((-f : Int) : Rat) := by rw [Rat.intCast_neg]; grind
    rw [e, Rat.floor_intCast, Rat.intCast_neg, Rat.intCast_neg]
    grind
theorem Bd.rnd {k : Nat} {x : Rat} (h : Bd k x) : Bd (k + 3) ((rndz x : Int) : Rat) := by
  obtain ⟨_, b, c⟩ := rnd_parts x
  have h2 := Nat.two_pow_pos k
  have hp : 2 ^ (k + 3) = 8 * 2 ^ k := by rw [Nat.pow_add, Nat.mul_comm]
  refine ⟨?_, by rw [c]; omega⟩
  rw [b]
  have h3 : Bd k (NL.frac false (rn x) x.den) := Bd.frac _ x.den_nz h.1 h.2
  have h4 : Bd 2 (NL.frac false 1 2) := Bd.frac _ (by decide) (by decide) (by decide)
  have h5 := (h3.add h4).1
  unfold rdq'
  exact Nat.lt_of_le_of_lt (Nat.div_le_self _ _) h5
end Go.Proofs.YtjdnpkicdmapnaaGreatDoor.NL
namespace Go.Proofs.YtjdnpkicdmapnaaGreatDoor.NL
open Go
/-- the limbs at even places below k, and those at odd ones -/
def evl (l : List Nat) : Nat → List Nat
  | 0 => []
  | k + 1 => if k % 2 = 0 then evl l k ++ [l.getD k 0] else evl l k
def odl (l : List Nat) : Nat → List Nat
  | 0 => []
  | k + 1 => if k % 2 = 0 then odl l k else odl l k ++ [l.getD k 0]
theorem evl_even (l : List Nat) {k : Nat} (h : k % 2 = 0) : evl l (k + 1) = evl l k ++ [l.getD k 0] := by rw [evl, if_pos h]
theorem evl_odd (l : List Nat) {k : Nat} (h : k % 2 = 1) : evl l (k + 1) = evl l k := by rw [evl, if_neg (by omega)]
theorem odl_even (l : List Nat) {k : Nat} (h : k % 2 = 0) : odl l (k + 1) = odl l k := by rw [odl, if_pos h]
theorem odl_odd (l : List Nat) {k : Nat} (h : k % 2 = 1) : odl l (k + 1) = odl l k ++ [l.getD k 0] := by rw [odl, if_neg (by omega)]
theorem evl_len (l : List Nat) (k : Nat) : (evl l k).length = (k + 1) / 2 := by
  induction k with
  | zero => rfl
  | succ k ih =>
    rw [evl]; split
    · rw [List.length_append, ih, List.length_singleton]; omega
    · rw [ih]; omega
theorem odl_len (l : List Nat) (k : Nat) : (odl l k).length = k / 2 := by
  induction k with
  | zero => rfl
  | succ k ih =>
    rw [odl]; split
    · rw [ih]; omega
    · rw [List.length_append, ih, List.length_singleton]; omega
theorem evl_ok {l : List Nat} (h : Ok l) (k : Nat) : Ok (evl l k) := by
  induction k with
  | zero => exact Ok.nil
  | succ k ih =>
    rw [evl]; split
    · exact ih.append (Ok.cons (h.getD k) Ok.nil)
    · exact ih
theorem odl_ok {l : List Nat} (h : Ok l) (k : Nat) : Ok (odl l k) := by
  induction k with
  | zero => exact Ok.nil
  | succ k ih =>
    rw [odl]; split
    · exact ih
    · exact ih.append (Ok.cons (h.getD k) Ok.nil)
/-- the number -/
def vq (s : Bool) (l : List Nat) : Rat := frac s (val (evl l (min l.length 16))) (val (odl l (min l.length 16) ++ [1]))
theorem val_one (l : List Nat) : val (l ++ [1]) ≠ 0 := by
  induction l with
  | nil => decide
  | cons x l ih => simp only [List.cons_append, val]; omega
theorem trim_one (l : List Nat) : Trim (l ++ [1]) := by
  intro k hk
  rw [List.length_append, List.length_singleton] at hk
  obtain rfl : k = l.length := by omega
  simp
theorem limbs_with_one {l : List Nat} (h : Ok l) : limbs (val (l ++ [1])) = l ++ [1] := limbs_val (h.append (Ok.cons (by decide) Ok.nil)) (trim_one l)
theorem vq_bd (s : Bool) {l : List Nat} (h : Ok l) : Bd 288 (vq s l) := by
  have hm : min l.length 16 ≤ 16 := Nat.min_le_right _ _
  have h1 := val_lt (evl_ok h (min l.length 16))
  have h2 := val_lt ((odl_ok h (min l.length 16)).append (Ok.cons (show 1 < 4294967296 by decide) Ok.nil))
  rw [evl_len] at h1
  rw [List.length_append, List.length_singleton, odl_len] at h2
  have e : ∀ k, k ≤ 9 → 4294967296 ^ k ≤ 2 ^ 288 := fun k hk => by
    rw [show (4294967296 : Nat) = 2 ^ 32 from rfl, ← Nat.pow_mul]
    exact Nat.pow_le_pow_right (by decide) (by omega)
  exact Bd.frac s (val_one _) (Nat.lt_of_lt_of_le h1 (e _ (by omega))) (Nat.lt_of_lt_of_le h2 (e _ (by omega)))
end Go.Proofs.YtjdnpkicdmapnaaGreatDoor.NL
