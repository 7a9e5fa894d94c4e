/- The fine angle under turns, and that it does not fall under a positive turn of less than a half. No conditions. -/
import Derived.Test.YtgehbebjgmeccaaPd
set_option linter.unusedVariables false
set_option linter.unusedSimpArgs false
namespace Go.Proofs.Ytgehbebjgmeccaa.Ang
/-- The cross product of two boundaries. -/
def xx (i j : Int) : Int := mi i * mq j - mq i * mi j
theorem xx_mod (i j : Int) : xx (i % 64) (j % 64) = xx i j := by unfold xx; rw [(mi_mod i).1, (mi_mod i).2, (mi_mod j).1, (mi_mod j).2]
theorem xx_tab : ∀ i : Fin 64, ∀ n : Fin 33, (0 ≤ xx (i.val : Int) ((i.val : Int) + (n.val : Int))) ∧ (1 ≤ n.val → n.val ≤ 31 → 0 < xx (i.val : Int) ((i.val : Int) + (n.val : Int))) := by decide +kernel
theorem xx_nonneg (i n : Int) (h0 : 0 ≤ n) (h1 : n ≤ 32) : 0 ≤ xx i (i + n) := by
  have h := (xx_tab ⟨(i % 64).toNat, by omega⟩ ⟨n.toNat, by omega⟩).1
  simp only [Int.toNat_of_nonneg h0, Int.toNat_of_nonneg (show 0 ≤ i % 64 by omega)] at h
  rw [← xx_mod, show (i + n) % 64 = (i % 64 + n) % 64 from by omega, show i % 64 = i % 64 % 64 from by omega, xx_mod]
  simpa using h
theorem xx_pos (i n : Int) (h0 : 1 ≤ n) (h1 : n ≤ 31) : 0 < xx i (i + n) := by
  have n1 : 1 ≤ n.toNat := by omega
  have n2 : n.toNat ≤ 31 := by omega
  have h := (xx_tab ⟨(i % 64).toNat, by omega⟩ ⟨n.toNat, by omega⟩).2 n1 n2
  simp only [Int.toNat_of_nonneg (show 0 ≤ n by omega), Int.toNat_of_nonneg (show 0 ≤ i % 64 by omega)] at h
  rw [← xx_mod, show (i + n) % 64 = (i % 64 + n) % 64 from by omega, show i % 64 = i % 64 % 64 from by omega, xx_mod]
  simpa using h
theorem ring4 (a1 a2 b1 b2 c1 c2 e1 e2 x y u v : Int) :
    ((a1 * b2 - a2 * b1) * (c1 * e2 - c2 * e1)) * (x * v - y * u) =
      (a1 * y - a2 * x) * (c1 * v - c2 * u) * (b1 * e2 - b2 * e1) + (a1 * y - a2 * x) * (u * e2 - v * e1) * (b1 * c2 - b2 * c1)
      + (x * b2 - y * b1) * (c1 * v - c2 * u) * (a1 * e2 - a2 * e1) + (x * b2 - y * b1) * (u * e2 - v * e1) * (a1 * c2 - a2 * c1) := by grind

theorem cross_pos {k n x y u v : Int} (hs : IsSec k x y) (ht : IsSec ((k + n) % 64) u v) (h0 : 1 ≤ n) (h1 : n ≤ 31) : 0 < x * v - y * u := by
  have s := isSec_d.1 hs
  have t := isSec_d.1 ht
  have e1 : d ((k + n) % 64 - 1) u v = d (k + n - 1) u v := by rw [← d_mod, show ((k + n) % 64 - 1) % 64 = (k + n - 1) % 64 from by omega, d_mod]
  rw [e1, d_mod] at t
  have r := ring4 (mi (k - 1)) (mq (k - 1)) (mi k) (mq k) (mi (k + n - 1)) (mq (k + n - 1)) (mi (k + n)) (mq (k + n)) x y u v
  have c1 : 0 < xx (k - 1) k := by simpa [show k - 1 + 1 = k from by omega] using xx_pos (k - 1) 1 (by omega) (by omega)
  have c2 : 0 < xx (k + n - 1) (k + n) := by simpa [show k + n - 1 + 1 = k + n from by omega] using xx_pos (k + n - 1) 1 (by omega) (by omega)
  have p1 : 0 ≤ xx k (k + n) := xx_nonneg k n (by omega) (by omega)
  have p2 : 0 ≤ xx k (k + n - 1) := by simpa [show k + (n - 1) = k + n - 1 from by omega] using xx_nonneg k (n - 1) (by omega) (by omega)
  have p3 : 0 ≤ xx (k - 1) (k + n) := by simpa [show k - 1 + (n + 1) = k + n from by omega] using xx_nonneg (k - 1) (n + 1) (by omega) (by omega)
  have p4 : 0 < xx (k - 1) (k + n - 1) := by simpa [show k - 1 + n = k + n - 1 from by omega] using xx_pos (k - 1) n (by omega) (by omega)
  have b1 : 0 < x * mq k - y * mi k := by have := s.2.2.2; unfold d at this; rw [Int.mul_comm x, Int.mul_comm y]; omega
  have b2 : 0 < u * mq (k + n) - v * mi (k + n) := by have := t.2.2.2; unfold d at this; rw [Int.mul_comm u, Int.mul_comm v]; omega
  have a1 : 0 ≤ mi (k - 1) * y - mq (k - 1) * x := s.2.2.1
  have a2 : 0 ≤ mi (k + n - 1) * v - mq (k + n - 1) * u := t.2.2.1
  unfold xx at c1 c2 p1 p2 p3 p4
  have q1 := Int.mul_nonneg (Int.mul_nonneg a1 a2) p1
  have q2 := Int.mul_nonneg (Int.mul_nonneg a1 (Int.le_of_lt b2)) p2
  have q3 := Int.mul_nonneg (Int.mul_nonneg (Int.le_of_lt b1) a2) p3
  have q4 := Int.mul_pos (Int.mul_pos b1 b2) p4
  have cc := Int.mul_pos c1 c2
  by_cases g : 0 < x * v - y * u
  · exact g
  · have := Int.mul_nonneg (Int.le_of_lt cc) (show 0 ≤ -(x * v - y * u) by omega)
    rw [Int.mul_neg, r] at this
    omega
theorem fab {k x y : Int} (h : IsSec k x y) : fa x y = d (k - 1) x y ∧ fb x y = - d k x y ∧ 0 ≤ fa x y ∧ 0 < fb x y := by
  have e := secF_eq h
  have := isSec_d.1 h
  unfold fa fb; rw [e]; omega
/-- The floor of the share. -/
def fl (x y : Int) : Int := 64 * fa x y / (fa x y + fb x y)
theorem fl_bd {x y : Int} (h : x ≠ 0 ∨ y ≠ 0) : 0 ≤ fl x y ∧ fl x y ≤ 63 := by
  have := fab (secF_is x y h)
  unfold fl
  refine ⟨Int.ediv_nonneg (by omega) (by omega), ?_⟩
  have := Int.ediv_lt_of_lt_mul (a := 64 * fa x y) (b := 64) (c := fa x y + fb x y) (by omega) (by omega)
  omega
theorem fineF_eq {x y : Int} (h : x ≠ 0 ∨ y ≠ 0) : fineF x y = (64 * secF x y - 32 + fl x y) % 4096 := by
  unfold fineF fl; rw [if_neg (by omega)]
theorem fineF_bd (x y : Int) : 0 ≤ fineF x y ∧ fineF x y < 4096 := by
  unfold fineF; split <;> omega
theorem ne_rot {x y : Int} (h : x ≠ 0 ∨ y ≠ 0) : -y ≠ 0 ∨ x ≠ 0 := by omega
theorem secF_rot {x y : Int} (h : x ≠ 0 ∨ y ≠ 0) : secF (-y) x = (secF x y + 16) % 64 := secF_eq (isSec_rot (secF_is x y h))
theorem fl_rot {x y : Int} (h : x ≠ 0 ∨ y ≠ 0) : fl (-y) x = fl x y := by
  have a := fab (isSec_rot (secF_is x y h))
  have b := fab (secF_is x y h)
  unfold fl
  have e1 : fa (-y) x = fa x y := by
    rw [a.1, b.1, ← d_mod, show ((secF x y + 16) % 64 - 1) % 64 = (secF x y - 1 + 16) % 64 from by omega, d_mod, d_rot]
  have e2 : fb (-y) x = fb x y := by rw [a.2.1, b.2.1, d_mod, d_rot]
  rw [e1, e2]
theorem fineF_rot {x y : Int} (h : x ≠ 0 ∨ y ≠ 0) : fineF (-y) x = (fineF x y + 1024) % 4096 := by
  rw [fineF_eq (ne_rot h), fineF_eq h, fl_rot h, secF_rot h]; omega
theorem fineF_neg {x y : Int} (h : x ≠ 0 ∨ y ≠ 0) : fineF (-x) (-y) = (fineF x y + 2048) % 4096 := by
  rw [fineF_rot (ne_rot h), fineF_rot h]; omega
theorem secF_neg {x y : Int} (h : x ≠ 0 ∨ y ≠ 0) : secF (-x) (-y) = (secF x y + 32) % 64 := by
  rw [secF_rot (ne_rot h), secF_rot h]; omega
theorem fl_neg {x y : Int} (h : x ≠ 0 ∨ y ≠ 0) : fl (-x) (-y) = fl x y := by
  rw [fl_rot (ne_rot h), fl_rot h]
theorem ring2 (a1 a2 b1 b2 x y u v : Int) : (a1 * v - a2 * u) * (x * b2 - y * b1) - (a1 * y - a2 * x) * (u * b2 - v * b1) = (a1 * b2 - a2 * b1) * (x * v - y * u) := by grind
/-- In one sector a turn that is not negative does not let the share fall. -/
theorem fl_mono {x y u v : Int} (h : x ≠ 0 ∨ y ≠ 0) (h' : u ≠ 0 ∨ v ≠ 0) (he : secF x y = secF u v) (hc : 0 ≤ x * v - y * u) : fl x y ≤ fl u v := by
  have s := secF_is x y h
  have t := secF_is u v h'
  rw [← he] at t
  have a := fab s
  have b := fab t
  generalize secF x y = k at *
  have c1 : 0 < xx (k - 1) k := by simpa [show k - 1 + 1 = k from by omega] using xx_pos (k - 1) 1 (by omega) (by omega)
  have r := ring2 (mi (k - 1)) (mq (k - 1)) (mi k) (mq k) x y u v
  have e : fa u v * fb x y - fa x y * fb u v = xx (k - 1) k * (x * v - y * u) := by
    rw [a.1, a.2.1, b.1, b.2.1]; unfold d xx; rw [← r]
    have e1 : -(mi k * y - mq k * x) = x * mq k - y * mi k := by rw [Int.mul_comm x, Int.mul_comm y]; omega
    have e2 : -(mi k * v - mq k * u) = u * mq k - v * mi k := by rw [Int.mul_comm u, Int.mul_comm v]; omega
    rw [e1, e2]
  have e0 : 0 ≤ fa u v * fb x y - fa x y * fb u v := by rw [e]; exact Int.mul_nonneg (by omega) hc
  unfold fl
  generalize fa x y = p at *
  generalize fb x y = q at *
  generalize fa u v = p' at *
  generalize fb u v = q' at *
  have hp : 0 ≤ p := a.2.2.1
  have hq : 0 < q := a.2.2.2
  have hp' : 0 ≤ p' := b.2.2.1
  have hq' : 0 < q' := b.2.2.2
  refine (Int.le_ediv_iff_mul_le (by omega)).2 ?_
  have g1 : 64 * p / (p + q) * (p + q) ≤ 64 * p := Int.ediv_mul_le _ (by omega)
  have g0 : 0 ≤ 64 * p / (p + q) := Int.ediv_nonneg (by omega) (by omega)
  generalize 64 * p / (p + q) = z at *
  -- z (p + q) ≤ 64 p, so z (p + q) (p' + q') ≤ 64 p (p' + q') ≤ 64 p' (p + q)
  have g2 : z * (p + q) * (p' + q') ≤ 64 * p * (p' + q') := Int.mul_le_mul_of_nonneg_right g1 (by omega)
  have g3 : 64 * p * (p' + q') ≤ 64 * p' * (p + q) := by
    have : 64 * p' * (p + q) - 64 * p * (p' + q') = 64 * (p' * q - p * q') := by grind
    omega
  have g4 : z * (p' + q') * (p + q) ≤ 64 * p' * (p + q) := by
    have : z * (p' + q') * (p + q) = z * (p + q) * (p' + q') := by grind
    omega
  exact Int.le_of_mul_le_mul_right g4 (by omega)
/-- The fine angle does not fall under a positive turn of less than a half, nor grow by more than a half. -/
theorem grows {x y u v : Int} (h : x ≠ 0 ∨ y ≠ 0) (h' : u ≠ 0 ∨ v ≠ 0) (hc : 0 < x * v - y * u) : (fineF u v - fineF x y) % 4096 ≤ 2048 := by
  have s := secF_is x y h
  have t := secF_is u v h'
  have fs := fl_bd h
  have ft := fl_bd h'
  have n0 : 0 ≤ (secF u v - secF x y) % 64 ∧ (secF u v - secF x y) % 64 < 64 := by omega
  rw [fineF_eq h, fineF_eq h']
  have s0 := s.1; have s1 := s.2.1; have t0 := t.1; have t1 := t.2.1
  by_cases c0 : secF x y = secF u v
  · have := fl_mono h h' c0 (by omega)
    rw [c0]; omega
  by_cases c1 : (secF u v - secF x y) % 64 ≤ 31
  · omega
  by_cases c2 : (secF u v - secF x y) % 64 = 32
  · have e := secF_neg h'
    have e2 : secF (-u) (-v) = secF x y := by omega
    have h2 : -u ≠ 0 ∨ -v ≠ 0 := by omega
    have m := fl_mono h2 h e2 (by
      have : -u * y - -v * x = x * v - y * u := by grind
      omega)
    rw [fl_neg h'] at m
    omega
  · exfalso
    have := cross_pos (k := secF u v) (n := (secF x y - secF u v) % 64) t (by rwa [show (secF u v + (secF x y - secF u v) % 64) % 64 = secF x y from by omega]) (by omega) (by omega)
    have e : u * y - v * x = - (x * v - y * u) := by grind
    omega
end Go.Proofs.Ytgehbebjgmeccaa.Ang
