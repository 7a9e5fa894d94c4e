/- Contracts of functions of the program and of its reference, out of walks. Their conditions stand ahead of each. -/
import Derived.Test.YtgehbebjgmeccaaW60
set_option linter.unusedVariables false
set_option linter.unusedSimpArgs false
namespace Go.Proofs.Ytgehbebjgmeccaa
open Go.RowKit GW
theorem sgV_sat (neg : Bool) (m : Int) (h : 0 ≤ m) : Fx.sgV neg m = sat (if neg then -m else m) := by
  unfold Fx.sgV sat
  cases neg
  · simp only [Bool.false_eq_true, if_false]
    repeat' split
    all_goals omega
  · simp only [if_true]
    repeat' split
    all_goals omega
theorem sat_mono {x y : Int} (h : x ≤ y) : sat x ≤ sat y := by
  unfold sat; repeat' split <;> omega
theorem sat_dbl (x : Int) : sat (sat x + sat x) = sat (2 * x) := by
  unfold sat; repeat' split <;> omega
/-- what Shift returns -/
def shV (a n : Int) : Int := if 0 ≤ n then sat (a * 2 ^ n.toNat) else Fx.sgV (decide (a < 0)) (Fx.hup (az a) (2 ^ (-n).toNat))
theorem az_sgn (a k : Int) : (if decide (a < 0) then -(az a * k) else az a * k) = a * k := by
  unfold az
  by_cases h : a < 0
  · simp [h, Int.neg_mul, Int.neg_neg]
  · simp [h]
theorem Clamp_no (a lo hi : Int) (h : hi < lo) (w : World) : Calls Try.prog 80 #[.int .i64 a, .int .i64 lo, .int .i64 hi] w fun e w' => e = .returned (.tuple #[.int .i64 0, .int .i64 2]) ∧ w = w' := by
  go_enter Try.func80, Try.ntmps80
  go_wp2_with fail
  go_ret2
  exact ⟨rfl, rfl⟩
theorem rClamp_no (a lo hi : Int) (h : hi < lo) (w : World) : Calls Try.prog 81 #[.int .i64 a, .int .i64 lo, .int .i64 hi] w fun e w' => e = .returned (.tuple #[.int .i64 0, .int .i64 2]) ∧ w = w' := by
  go_enter Try.func81, Try.ntmps81
  go_wp2_with fail
  go_ret2
  exact ⟨rfl, rfl⟩
theorem Clamp_yes (a lo hi : Int) (h : lo ≤ hi) (w : World) : Calls Try.prog 80 #[.int .i64 a, .int .i64 lo, .int .i64 hi] w fun e w' => e = .returned (.tuple #[.int .i64 (max lo (min a hi)), .int .i64 0]) ∧ w = w' := by
  go_enter Try.func80, Try.ntmps80
  go_wp2_with fail
  go_ret2
  exact ⟨rfl, rfl⟩
theorem rClamp_yes (a lo hi : Int) (h : lo ≤ hi) (w : World) : Calls Try.prog 81 #[.int .i64 a, .int .i64 lo, .int .i64 hi] w fun e w' => e = .returned (.tuple #[.int .i64 (max lo (min a hi)), .int .i64 0]) ∧ w = w' := by
  rw [show max lo (min a hi) = min (max a lo) hi by omega]
  go_enter Try.func81, Try.ntmps81
  go_wp2_with fail
  go_ret2
  exact ⟨rfl, rfl⟩
theorem az0 {a : Int} (h : a ≠ 0) : (a == 0) = false := by simpa using h
theorem hup_small (p : Int) (n : Nat) (h0 : 0 ≤ p) (h : 2 * p < 2 ^ n) : Fx.hup p (2 ^ n) = 0 := by
  unfold Fx.hup
  exact Int.ediv_eq_zero_of_lt (by have := Fx.pow_pos' n; omega) (by omega)
theorem pow_ge {m n : Nat} (h : m ≤ n) : (2 : Int) ^ m ≤ 2 ^ n := by
  have := Int.ofNat_le.2 (Nat.pow_le_pow_right (n := 2) (by omega) h)
  rw [Int.natCast_pow, Int.natCast_pow] at this
  exact this
theorem shV_zero (n : Int) : shV 0 n = 0 := by
  unfold shV
  split
  · simp; decide
  · have : Fx.hup (az 0) (2 ^ (-n).toNat) = 0 := by
      rw [show az 0 = 0 from rfl]
      exact hup_small 0 _ (by omega) (by have := Fx.pow_pos' (-n).toNat; omega)
    rw [this]; rfl
theorem shV_low (a n : Int) (ha : Fx.R64 a) (h : n < -64) : shV a n = 0 := by
  unfold shV
  rw [if_neg (by omega)]
  have u := az_u ha
  have p := pow_ge (show 65 ≤ (-n).toNat by omega)
  rw [show (2 : Int) ^ 65 = 36893488147419103232 from rfl] at p
  rw [hup_small (az a) _ u.2.2 (by omega)]
  cases decide (a < 0) <;> rfl
theorem shV_up (a : Int) (n : Nat) : shV a n = sat (a * 2 ^ n) := by
  unfold shV
  rw [if_pos (by omega), Int.toNat_natCast]
theorem shV_up' (a : Int) (n : Nat) : Fx.sgV (decide (a < 0)) (az a * 2 ^ n) = shV a n := by
  have u : 0 ≤ az a * 2 ^ n := Int.mul_nonneg (by unfold az; split <;> omega) (by have := Fx.pow_pos' n; omega)
  rw [sgV_sat _ _ u, az_sgn, shV_up]
/-- any greater power saturates as well -/
theorem sg_big (neg : Bool) {m k : Int} (h : 9223372036854775807 < m) (h' : 9223372036854775807 < k) : Fx.sgV neg m = Fx.sgV neg k := by
  unfold Fx.sgV
  cases neg <;> simp [h, h']
end Go.Proofs.Ytgehbebjgmeccaa

namespace Go.Proofs.Ytgehbebjgmeccaa
open Go.RowKit GW
theorem Shift_zero (n : Int) (w : World) : Calls Try.prog 88 #[.int .i64 0, .int .i64 n] w fun e w' => e = .returned (.int .i64 (shV 0 n)) ∧ Below w.heap.size w w' := by
  rw [shV_zero]
  have CA := Lib.hid (fun w => size_w 0 0 ⟨by omega, by omega⟩ rfl w)
  refine calls_g fun g => ?_
  go_enter Try.func88, Try.ntmps88
  go_wp2_with (with_reducible refine G.any_mark _ ?_; (try generalize Array.size (World.heap (G.w _)) = bk); (try dsimp only [List.set_cons_zero, List.set_cons_succ]); (try clear g); intro g)
  refine (CA.out _).mono ?_; rintro e w1 ⟨rfl, hb⟩; obtain ⟨g1, rfl⟩ := G.call_ex _ hb; clear hb; (try clear g); revert g1; intro g
  go_wp2_with (with_reducible refine G.any_mark _ ?_; (try generalize Array.size (World.heap (G.w _)) = bk); (try dsimp only [List.set_cons_zero, List.set_cons_succ]); (try clear g); intro g)
  go_ret
  exact ⟨rfl, G.below _⟩
theorem Shift_low (a n : Int) (ha : Fx.R64 a) (a0 : a ≠ 0) (h : n ≤ -128) (w : World) : Calls Try.prog 88 #[.int .i64 a, .int .i64 n] w fun e w' => e = .returned (.int .i64 (shV a n)) ∧ Below w.heap.size w w' := by
  rw [shV_low a n ha (by omega)]
  have CA := Lib.hid (fun w => size_w a (az a) ha rfl w)
  have t0 := az0 a0
  clear a0 ha
  refine calls_g fun g => ?_
  go_enter Try.func88, Try.ntmps88
  go_wp2_with (with_reducible refine G.any_mark _ ?_; (try generalize Array.size (World.heap (G.w _)) = bk); (try dsimp only [List.set_cons_zero, List.set_cons_succ]); (try clear g); intro g)
  refine (CA.out _).mono ?_; rintro e w1 ⟨rfl, hb⟩; obtain ⟨g1, rfl⟩ := G.call_ex _ hb; clear hb; (try clear g); revert g1; intro g
  go_wp2_with (with_reducible refine G.any_mark _ ?_; (try generalize Array.size (World.heap (G.w _)) = bk); (try dsimp only [List.set_cons_zero, List.set_cons_succ]); (try clear g); intro g)
  go_ret
  exact ⟨rfl, G.below _⟩
theorem Shift_down (a m : Int) (n : Nat) (hm : -m = n) (ha : Fx.R64 a) (a0 : a ≠ 0) (h0 : 1 ≤ n) (h : n < 128) (V : Int) (hV : Fx.sgV (decide (a < 0)) (Fx.hup (az a) (2 ^ n)) = V) (w : World) : Calls Try.prog 88 #[.int .i64 a, .int .i64 m] w fun e w' => e = .returned (.int .i64 V) ∧ Below w.heap.size w w' := by
  have u := az_u ha
  have q := hup_le (az a) n u.2.2
  obtain ⟨A, eA⟩ : ∃ v, az a = v := ⟨_, rfl⟩
  rw [eA] at u q hV
  obtain ⟨H2, e3⟩ : ∃ v, Fx.hup A (2 ^ n) / 18446744073709551616 = v := ⟨_, rfl⟩
  obtain ⟨L2, e4⟩ : ∃ v, Fx.hup A (2 ^ n) % 18446744073709551616 = v := ⟨_, rfl⟩
  have u2 : Fx.U64 H2 ∧ Fx.U64 L2 ∧ Fx.wd H2 L2 = Fx.hup A (2 ^ n) := by unfold Fx.U64 Fx.wd; omega
  have e0 : Fx.wd 0 A = A := by unfold Fx.wd; omega
  have CA := Lib.hid (fun w => size_w a A ha eA w)
  have CH := Lib.hid (fun w => halved_w 0 A H2 L2 n (by unfold Fx.U64; omega) u.1 (by omega) (by rw [e0]; exact e3) (by rw [e0]; exact e4) w)
  have CV := Lib.hid (fun w => value_w H2 L2 V (decide (a < 0)) u2.1 u2.2.1 (by rw [u2.2.2]; exact hV) w)
  have t0 := az0 a0
  have n0 : m < 0 := by omega
  have n1 : ¬ (m ≤ -128) := by omega
  have n4 : IntKind.i64.wrap (-m) = n := by rw [hm]; exact IntWalk.i64_in _ (by omega)
  clear u2 e3 e4 e0 hV u q a0 ha eA
  refine calls_g fun g => ?_
  go_enter Try.func88, Try.ntmps88
  go_wp2_with (with_reducible refine G.any_mark _ ?_; (try generalize Array.size (World.heap (G.w _)) = bk); (try dsimp only [List.set_cons_zero, List.set_cons_succ]); (try clear g); intro g)
  refine (CA.out _).mono ?_; rintro e w1 ⟨rfl, hb⟩; obtain ⟨g1, rfl⟩ := G.call_ex _ hb; clear hb; (try clear g); revert g1; intro g
  go_wp2_with (with_reducible refine G.any_mark _ ?_; (try generalize Array.size (World.heap (G.w _)) = bk); (try dsimp only [List.set_cons_zero, List.set_cons_succ]); (try clear g); intro g)
  refine (CH.out _).mono ?_; rintro e w1 ⟨rfl, hb⟩; obtain ⟨g1, rfl⟩ := G.call_ex _ hb; clear hb; (try clear g); revert g1; intro g
  go_wp2_with (with_reducible refine G.any_mark _ ?_; (try generalize Array.size (World.heap (G.w _)) = bk); (try dsimp only [List.set_cons_zero, List.set_cons_succ]); (try clear g); intro g)
  refine (CV.out _).mono ?_; rintro e w1 ⟨rfl, hb⟩; obtain ⟨g1, rfl⟩ := G.call_ex _ hb; clear hb; (try clear g); revert g1; intro g
  go_wp2_with (with_reducible refine G.any_mark _ ?_; (try generalize Array.size (World.heap (G.w _)) = bk); (try dsimp only [List.set_cons_zero, List.set_cons_succ]); (try clear g); intro g)
  go_ret
  exact ⟨rfl, G.below _⟩
theorem Shift_big (a n : Int) (ha : Fx.R64 a) (a0 : a ≠ 0) (h : 64 ≤ n) (V : Int) (hV : Fx.sgV (decide (a < 0)) 18446744073709551616 = V) (w : World) : Calls Try.prog 88 #[.int .i64 a, .int .i64 n] w fun e w' => e = .returned (.int .i64 V) ∧ Below w.heap.size w w' := by
  have CA := Lib.hid (fun w => size_w a (az a) ha rfl w)
  have CV := Lib.hid (fun w => value_w 1 0 V (decide (a < 0)) (by unfold Fx.U64; omega) (by unfold Fx.U64; omega) hV w)
  have t0 := az0 a0
  have n1 : ¬ n ≤ -128 := by omega
  have n2 : ¬ n < 0 := by omega
  clear a0 ha hV
  refine calls_g fun g => ?_
  go_enter Try.func88, Try.ntmps88
  go_wp2_with (with_reducible refine G.any_mark _ ?_; (try generalize Array.size (World.heap (G.w _)) = bk); (try dsimp only [List.set_cons_zero, List.set_cons_succ]); (try clear g); intro g)
  refine (CA.out _).mono ?_; rintro e w1 ⟨rfl, hb⟩; obtain ⟨g1, rfl⟩ := G.call_ex _ hb; clear hb; (try clear g); revert g1; intro g
  go_wp2_with (with_reducible refine G.any_mark _ ?_; (try generalize Array.size (World.heap (G.w _)) = bk); (try dsimp only [List.set_cons_zero, List.set_cons_succ]); (try clear g); intro g)
  refine (CV.out _).mono ?_; rintro e w1 ⟨rfl, hb⟩; obtain ⟨g1, rfl⟩ := G.call_ex _ hb; clear hb; (try clear g); revert g1; intro g
  go_wp2_with (with_reducible refine G.any_mark _ ?_; (try generalize Array.size (World.heap (G.w _)) = bk); (try dsimp only [List.set_cons_zero, List.set_cons_succ]); (try clear g); intro g)
  go_ret
  exact ⟨rfl, G.below _⟩
theorem Shift_up (a : Int) (n : Nat) (ha : Fx.R64 a) (a0 : a ≠ 0) (h : n < 64) (V : Int) (hV : Fx.sgV (decide (a < 0)) (az a * 2 ^ n) = V) (w : World) : Calls Try.prog 88 #[.int .i64 a, .int .i64 n] w fun e w' => e = .returned (.int .i64 V) ∧ Below w.heap.size w w' := by
  have u := az_u ha
  obtain ⟨A, eA⟩ : ∃ v, az a = v := ⟨_, rfl⟩
  have pA := az_pos a0
  rw [eA] at u hV pA
  obtain ⟨u1, u2, u3⟩ := u
  have CA := Lib.hid (fun w => size_w a A ha eA w)
  obtain ⟨b, hb⟩ : ∃ b, Lib.bitLen A.toNat = b := ⟨_, rfl⟩
  have bd := Fx.bitLen_bd A.toNat A.toNat (Nat.le_refl _) (by omega) (by omega)
  rw [hb] at bd
  have CL := Lib.hid (fun w => Try.bits_Len64 A w u3 (by omega))
  rw [hb] at CL
  have b64 : b ≤ 64 := by
    rcases Nat.lt_or_ge 64 b with h | h
    · have : 2 ^ 64 ≤ 2 ^ (b - 1) := Nat.pow_le_pow_right (by omega) (by omega)
      omega
    · exact h
  have t0 := az0 a0
  have n0 : (0 : Int) ≤ n := by omega
  have n1 : (n : Int) < 64 := by omega
  have n2 : ¬ ((n : Int) ≤ -128) := by omega
  have b0 : (0 : Int) ≤ b := by omega
  have b1 : (b : Int) ≤ 64 := by omega
  have pn := Fx.pow_pos' n
  have an : A = ((A.toNat : Nat) : Int) := by omega
  by_cases hc : 64 < b + n
  · have hbig : 18446744073709551616 ≤ A * 2 ^ n := by
      have h1 : 2 ^ 64 ≤ A.toNat * 2 ^ n := by
        have := Nat.mul_le_mul_right (2 ^ n) bd.2.1
        rw [← Nat.pow_add] at this
        exact Nat.le_trans (Nat.pow_le_pow_right (by omega) (by omega)) this
      have h2 := Int.ofNat_le.2 h1
      rw [Int.natCast_mul, Int.natCast_pow, Int.natCast_pow, ← an] at h2
      exact h2
    have hV2 : Fx.sgV (decide (a < 0)) 18446744073709551616 = V := by rw [← hV]; exact sg_big _ (by omega) (by omega)
    have CV := Lib.hid (fun w => value_w 1 0 V (decide (a < 0)) (by unfold Fx.U64; omega) (by unfold Fx.U64; omega) hV2 w)
    have hc2 : (64 : Int) < b + n := by omega
    clear hV hV2 hbig a0 ha eA bd hb u1 u2 an pn hc
    refine calls_g fun g => ?_
    go_enter Try.func88, Try.ntmps88
    go_wp2_with (with_reducible refine G.any_mark _ ?_; (try generalize Array.size (World.heap (G.w _)) = bk); (try dsimp only [List.set_cons_zero, List.set_cons_succ]); (try clear g); intro g)
    refine (CA.out _).mono ?_; rintro e w1 ⟨rfl, hb⟩; obtain ⟨g1, rfl⟩ := G.call_ex _ hb; clear hb; (try clear g); revert g1; intro g
    go_wp2_with (with_reducible refine G.any_mark _ ?_; (try generalize Array.size (World.heap (G.w _)) = bk); (try dsimp only [List.set_cons_zero, List.set_cons_succ]); (try clear g); intro g)
    refine (CL.out _).mono ?_
    rintro e w1 ⟨rfl, rfl⟩
    go_wp2_with (with_reducible refine G.any_mark _ ?_; (try generalize Array.size (World.heap (G.w _)) = bk); (try dsimp only [List.set_cons_zero, List.set_cons_succ]); (try clear g); intro g)
    refine (CV.out _).mono ?_; rintro e w1 ⟨rfl, hb⟩; obtain ⟨g1, rfl⟩ := G.call_ex _ hb; clear hb; (try clear g); revert g1; intro g
    go_wp2_with (with_reducible refine G.any_mark _ ?_; (try generalize Array.size (World.heap (G.w _)) = bk); (try dsimp only [List.set_cons_zero, List.set_cons_succ]); (try clear g); intro g)
    go_ret
    exact ⟨rfl, G.below _⟩
  · have hsm : A * 2 ^ n < 18446744073709551616 := by
      have h1 : A.toNat * 2 ^ n < 2 ^ 64 := by
        have := Nat.mul_lt_mul_of_pos_right bd.2.2 (Nat.two_pow_pos n)
        rw [← Nat.pow_add] at this
        exact Nat.lt_of_lt_of_le this (Nat.pow_le_pow_right (by omega) (by omega))
      have h2 := Int.ofNat_lt.2 h1
      rw [Int.natCast_mul, Int.natCast_pow, Int.natCast_pow, ← an] at h2
      exact h2
    have hp : 0 ≤ A * 2 ^ n := Int.mul_nonneg u3 (by omega)
    have wK : IntKind.u64.wrap (A * 2 ^ n) = A * 2 ^ n := by rw [IntKind.wrap_u64]; omega
    generalize hK : A * 2 ^ n = K at *
    have CV := Lib.hid (fun w => value_w 0 K V (decide (a < 0)) (by unfold Fx.U64; omega) (by unfold Fx.U64; omega) (by unfold Fx.wd; rw [show (0 : Int) * 18446744073709551616 + K = K by omega]; exact hV) w)
    have hc2 : ¬ ((64 : Int) < b + n) := by omega
    clear hV a0 ha eA bd hb u1 u2 an pn hc hsm hp
    refine calls_g fun g => ?_
    go_enter Try.func88, Try.ntmps88
    go_wp2_with (with_reducible refine G.any_mark _ ?_; (try generalize Array.size (World.heap (G.w _)) = bk); (try dsimp only [List.set_cons_zero, List.set_cons_succ]); (try clear g); intro g)
    refine (CA.out _).mono ?_; rintro e w1 ⟨rfl, hb⟩; obtain ⟨g1, rfl⟩ := G.call_ex _ hb; clear hb; (try clear g); revert g1; intro g
    go_wp2_with (with_reducible refine G.any_mark _ ?_; (try generalize Array.size (World.heap (G.w _)) = bk); (try dsimp only [List.set_cons_zero, List.set_cons_succ]); (try clear g); intro g)
    refine (CL.out _).mono ?_
    rintro e w1 ⟨rfl, rfl⟩
    go_wp2_with (with_reducible refine G.any_mark _ ?_; (try generalize Array.size (World.heap (G.w _)) = bk); (try dsimp only [List.set_cons_zero, List.set_cons_succ]); (try clear g); intro g)
    refine (CV.out _).mono ?_; rintro e w1 ⟨rfl, hb⟩; obtain ⟨g1, rfl⟩ := G.call_ex _ hb; clear hb; (try clear g); revert g1; intro g
    go_wp2_with (with_reducible refine G.any_mark _ ?_; (try generalize Array.size (World.heap (G.w _)) = bk); (try dsimp only [List.set_cons_zero, List.set_cons_succ]); (try clear g); intro g)
    go_ret
    exact ⟨rfl, G.below _⟩
end Go.Proofs.Ytgehbebjgmeccaa

namespace Go.Proofs.Ytgehbebjgmeccaa
open Go.RowKit GW
theorem pow2_step (a : Int) (k : Nat) : a * 2 ^ (k + 1) = 2 * (a * 2 ^ k) := by rw [Fx.pow_succ']; grind
theorem rShift_up (a : Int) (n : Nat) (ha : Fx.R64 a) (hn : n ≤ 64) (w : World) : Calls Try.prog 89 #[.int .i64 a, .int .i64 n] w fun e w' => e = .returned (.int .i64 (sat (a * 2 ^ n))) ∧ w = w' := by
  have hn0 : (0 : Int) ≤ n := by omega
  have hn1 : (n : Int) ≤ 64 := by omega
  have HA := Lib.hid ha
  clear ha
  go_enter Try.func89, Try.ntmps89
  go_wp2_with fail
  go_loop [0, 1] (fun p q => ∃ k m : Nat, k + m = n ∧ p = .int .i64 (sat (a * 2 ^ k)) ∧ q = .int .i64 m) (fun _ q => (intOf q).toNat)
  case atStart => exact ⟨0, n, by omega, by rw [show a * 2 ^ 0 = a by simp, sat_in HA.out], rfl⟩
  case round =>
    obtain ⟨k, m, hkm, rfl, rfl⟩ := hrel
    have HK := Lib.hid hkm
    have hs := sat_r (a * 2 ^ k)
    have hd := sat_dbl (a * 2 ^ k)
    rw [← pow2_step] at hd
    have CA := Lib.hid (fun w => rAdd_any (sat (a * 2 ^ k)) (sat (a * 2 ^ k)) hs hs w)
    rw [hd] at CA
    clear hkm hs hd
    have m0 : (0 : Int) ≤ m := by omega
    have m1 : (m : Int) ≤ 64 := by have := HK.out; omega
    by_cases hlt : 0 < m
    · have k1 : (0 : Int) < m := by omega
      have mw : IntKind.i64.wrap ((m : Int) - 1) = (m : Int) - 1 := IntWalk.i64_in _ (by omega)
      generalize sat (a * 2 ^ k) = S at *
      go_wp2_with fail
      refine (CA.out _).mono ?_
      rintro e w1 ⟨rfl, rfl⟩
      go_wp2_with fail
      exact ⟨⟨k + 1, m - 1, by have := HK.out; omega, rfl, by go_num⟩, by simp [intOf]; omega⟩
    · obtain rfl : m = 0 := by omega
      have hk := HK.out
      obtain rfl : k = n := by omega
      go_wp2_with fail
      go_ret
      exact ⟨rfl, rfl⟩
theorem rShift_over (a n : Int) (ha : Fx.R64 a) (hn : 64 < n) (w : World) : Calls Try.prog 89 #[.int .i64 a, .int .i64 n] w fun e w' => e = .returned (.int .i64 (sat (a * 2 ^ 64))) ∧ w = w' := by
  have HA := Lib.hid ha
  clear ha
  go_enter Try.func89, Try.ntmps89
  go_wp2_with fail
  go_loop [0, 1] (fun p q => ∃ k m : Nat, k + m = 64 ∧ p = .int .i64 (sat (a * 2 ^ k)) ∧ q = .int .i64 m) (fun _ q => (intOf q).toNat)
  case atStart => exact ⟨0, 64, by omega, by rw [show a * 2 ^ 0 = a by simp, sat_in HA.out], rfl⟩
  case round =>
    obtain ⟨k, m, hkm, rfl, rfl⟩ := hrel
    have HK := Lib.hid hkm
    have hs := sat_r (a * 2 ^ k)
    have hd := sat_dbl (a * 2 ^ k)
    rw [← pow2_step] at hd
    have CA := Lib.hid (fun w => rAdd_any (sat (a * 2 ^ k)) (sat (a * 2 ^ k)) hs hs w)
    rw [hd] at CA
    clear hkm hs hd
    have m0 : (0 : Int) ≤ m := by omega
    have m1 : (m : Int) ≤ 64 := by have := HK.out; omega
    by_cases hlt : 0 < m
    · have k1 : (0 : Int) < m := by omega
      have mw : IntKind.i64.wrap ((m : Int) - 1) = (m : Int) - 1 := IntWalk.i64_in _ (by omega)
      generalize sat (a * 2 ^ k) = S at *
      go_wp2_with fail
      refine (CA.out _).mono ?_
      rintro e w1 ⟨rfl, rfl⟩
      go_wp2_with fail
      exact ⟨⟨k + 1, m - 1, by have := HK.out; omega, rfl, by go_num⟩, by simp [intOf]; omega⟩
    · obtain rfl : m = 0 := by omega
      have hk := HK.out
      obtain rfl : k = 64 := by omega
      go_wp2_with fail
      go_ret
      exact ⟨rfl, rfl⟩
theorem rShift_low (a n : Int) (hn : n < -70) (w : World) : Calls Try.prog 89 #[.int .i64 a, .int .i64 n] w fun e w' => e = .returned (.int .i64 0) ∧ w = w' := by
  have n1 : ¬ (0 ≤ n) := by omega
  have n2 : ¬ (64 < n) := by omega
  go_enter Try.func89, Try.ntmps89
  go_wp2_with fail
  go_ret
  exact ⟨rfl, rfl⟩
theorem rShift_down (a m : Int) (n : Nat) (hm : -m = n) (ha : Fx.R64 a) (h0 : 1 ≤ n) (h : n ≤ 70) (V : Int) (hV : Fx.sgV (decide (a < 0)) (Fx.hup (az a) (2 ^ n)) = V) (w : World) : Calls Try.prog 89 #[.int .i64 a, .int .i64 m] w fun e w' => e = .returned (.int .i64 V) ∧ Below w.heap.size w w' := by
  have u := az_u ha
  have q := hup_le (az a) n u.2.2
  obtain ⟨A, eA⟩ : ∃ v, az a = v := ⟨_, rfl⟩
  rw [eA] at u q hV
  have e3 : Fx.hup A (2 ^ n) / 18446744073709551616 = 0 := by omega
  obtain ⟨L2, e4⟩ : ∃ v, Fx.hup A (2 ^ n) % 18446744073709551616 = v := ⟨_, rfl⟩
  have e5 : Fx.hup A (2 ^ n) = L2 := by omega
  have e0 : Fx.wd 0 A = A := by unfold Fx.wd; omega
  have CA := Lib.hid (fun w => rsize_w a A ha eA w)
  have CH := Lib.hid (fun w => rhalved_w 0 A 0 L2 n (by unfold Fx.U64; omega) u.1 (by omega) (by rw [e0]; exact e3) (by rw [e0]; exact e4) w)
  have CV := Lib.hid (fun w => signed_b L2 _ V false (decide (a < 0)) (by unfold Fx.U64; omega) (fun h => by cases h) (fun _ => e5) hV w)
  have n0 : ¬ (0 ≤ m) := by omega
  have n1 : ¬ (m < -70) := by omega
  have n2 : ¬ (64 < m) := by omega
  have n4 : IntKind.i64.wrap (-m) = n := by rw [hm]; exact IntWalk.i64_in _ (by omega)
  clear e3 e4 e5 e0 hV u q ha eA
  refine calls_g fun g => ?_
  go_enter Try.func89, Try.ntmps89
  go_wp2_with (with_reducible refine G.any_mark _ ?_; (try generalize Array.size (World.heap (G.w _)) = bk); (try dsimp only [List.set_cons_zero, List.set_cons_succ]); (try clear g); intro g)
  refine (CA.out _).mono ?_; rintro e w1 ⟨rfl, hb⟩; obtain ⟨g1, rfl⟩ := G.call_ex _ hb; clear hb; (try clear g); revert g1; intro g
  go_wp2_with (with_reducible refine G.any_mark _ ?_; (try generalize Array.size (World.heap (G.w _)) = bk); (try dsimp only [List.set_cons_zero, List.set_cons_succ]); (try clear g); intro g)
  refine (CH.out _).mono ?_; rintro e w1 ⟨rfl, hb⟩; obtain ⟨g1, rfl⟩ := G.call_ex _ hb; clear hb; (try clear g); revert g1; intro g
  go_wp2_with (with_reducible refine G.any_mark _ ?_; (try generalize Array.size (World.heap (G.w _)) = bk); (try dsimp only [List.set_cons_zero, List.set_cons_succ]); (try clear g); intro g)
  refine (CV.out _).mono ?_; rintro e w1 ⟨rfl, hb⟩; obtain ⟨g1, rfl⟩ := G.call_ex _ hb; clear hb; (try clear g); revert g1; intro g
  go_wp2_with (with_reducible refine G.any_mark _ ?_; (try generalize Array.size (World.heap (G.w _)) = bk); (try dsimp only [List.set_cons_zero, List.set_cons_succ]); (try clear g); intro g)
  go_ret
  exact ⟨rfl, G.below _⟩
theorem shV_over (a n : Int) (ha : Fx.R64 a) (hn : 64 ≤ n) : shV a n = sat (a * 2 ^ 64) ∧ (a ≠ 0 → Fx.sgV (decide (a < 0)) 18446744073709551616 = sat (a * 2 ^ 64)) := by
  have e64 : (2 : Int) ^ 64 = 18446744073709551616 := rfl
  have p := pow_ge (show 64 ≤ n.toNat by omega)
  rw [e64] at p
  rw [e64]
  unfold shV
  rw [if_pos (by omega)]
  generalize (2 : Int) ^ n.toNat = K at *
  by_cases h0 : a = 0
  · subst h0; exact ⟨by simp, fun h => absurd rfl h⟩
  · by_cases h1 : 0 < a
    · have h2 : K ≤ a * K := by
        have := Int.mul_le_mul_of_nonneg_right (show 1 ≤ a by omega) (show 0 ≤ K by omega)
        omega
      refine ⟨by rw [sat_hi (by omega), sat_hi (by omega)], fun _ => ?_⟩
      rw [sat_hi (by omega), show decide (a < 0) = false by simp; omega]
      decide
    · have h2 : a * K ≤ -K := by
        have := Int.mul_le_mul_of_nonneg_right (show a ≤ -1 by omega) (show 0 ≤ K by omega)
        omega
      refine ⟨by rw [sat_lo (by omega), sat_lo (by omega)], fun _ => ?_⟩
      rw [sat_lo (by omega), show decide (a < 0) = true by simp; omega]
      decide
theorem Shift_any (a n : Int) (ha : Fx.R64 a) (w : World) : Calls Try.prog 88 #[.int .i64 a, .int .i64 n] w fun e w' => e = .returned (.int .i64 (shV a n)) ∧ Below w.heap.size w w' := by
  by_cases h0 : a = 0
  · subst h0; exact Shift_zero n w
  · by_cases h1 : n ≤ -128
    · exact Shift_low a n ha h0 h1 w
    · by_cases h2 : n < 0
      · obtain ⟨k, hk⟩ := Int.eq_ofNat_of_zero_le (show 0 ≤ -n by omega)
        exact Shift_down a n k hk ha h0 (by omega) (by omega) _ (by unfold shV; rw [if_neg (by omega), hk, Int.toNat_natCast]) w
      · by_cases h3 : 64 ≤ n
        · have s := shV_over a n ha h3
          exact Shift_big a n ha h0 h3 _ (by rw [s.1]; exact s.2 h0) w
        · obtain ⟨k, rfl⟩ := Int.eq_ofNat_of_zero_le (show 0 ≤ n by omega)
          exact Shift_up a k ha h0 (by omega) _ (shV_up' a k) w
theorem rShift_any (a n : Int) (ha : Fx.R64 a) (w : World) : Calls Try.prog 89 #[.int .i64 a, .int .i64 n] w fun e w' => e = .returned (.int .i64 (shV a n)) ∧ Below w.heap.size w w' := by
  by_cases h1 : n < -70
  · rw [shV_low a n ha (by omega)]
    exact (rShift_low a n h1 w).mono fun e w' ⟨h1, h2⟩ => ⟨h1, by rw [h2]; exact Below.refl _ _⟩
  · by_cases h2 : n < 0
    · obtain ⟨k, hk⟩ := Int.eq_ofNat_of_zero_le (show 0 ≤ -n by omega)
      exact rShift_down a n k hk ha (by omega) (by omega) _ (by unfold shV; rw [if_neg (by omega), hk, Int.toNat_natCast]) w
    · by_cases h3 : 64 < n
      · rw [(shV_over a n ha (by omega)).1]
        exact (rShift_over a n ha h3 w).mono fun e w' ⟨h1, h2⟩ => ⟨h1, by rw [h2]; exact Below.refl _ _⟩
      · obtain ⟨k, rfl⟩ := Int.eq_ofNat_of_zero_le (show 0 ≤ n by omega)
        rw [shV_up]
        exact (rShift_up a k ha (by omega) w).mono fun e w' ⟨h1, h2⟩ => ⟨h1, by rw [h2]; exact Below.refl _ _⟩
end Go.Proofs.Ytgehbebjgmeccaa

namespace Go.Proofs.Ytgehbebjgmeccaa
open Go.RowKit GW
theorem clamp_both (a lo hi : Int) : ∃ V E : Int, (∀ w, Calls Try.prog 80 #[.int .i64 a, .int .i64 lo, .int .i64 hi] w fun e w' => e = .returned (.tuple #[.int .i64 V, .int .i64 E]) ∧ w = w') ∧
    (∀ w, Calls Try.prog 81 #[.int .i64 a, .int .i64 lo, .int .i64 hi] w fun e w' => e = .returned (.tuple #[.int .i64 V, .int .i64 E]) ∧ w = w') := by
  by_cases h : hi < lo
  · exact ⟨0, 2, Clamp_no a lo hi h, rClamp_no a lo hi h⟩
  · exact ⟨_, 0, Clamp_yes a lo hi (by omega), rClamp_yes a lo hi (by omega)⟩
set_option maxHeartbeats 2000000 in
theorem sums_walk1 (a b c : Int) (ha : Fx.R64 a) (hb : Fx.R64 b) (w : World) :
    Calls Try.prog 18 #[.int .i64 a, .int .i64 b, .int .i64 c] w fun e w' => e = .returned (.bool true) ∧ Below w.heap.size w w' := by
  obtain ⟨V1, E1, c1, c2⟩ := clamp_both a b c
  have C1 := Lib.hid c1
  have C2 := Lib.hid c2
  have c3 := fun w => Add_any a b ha hb w
  have c4 := fun w => rAdd_any a b ha hb w
  have c5 := fun w => Sub_any a b ha hb w
  have c6 := fun w => rSub_any a b ha hb w
  have c7 := fun w => Neg_any a ha w
  have c8 := fun w => rNeg_any a ha w
  have c9 := fun w => Shift_any a c ha w
  have c10 := fun w => rShift_any a c ha w
  generalize sat (a + b) = X1 at c3 c4
  generalize sat (a - b) = X2 at c5 c6
  generalize sat (0 - a) = X3 at c7 c8
  generalize shV a c = X4 at c9 c10
  have C3 := Lib.hid c3
  have C4 := Lib.hid c4
  have C5 := Lib.hid c5
  have C6 := Lib.hid c6
  have C7 := Lib.hid c7
  have C8 := Lib.hid c8
  have C9 := Lib.hid c9
  have C10 := Lib.hid c10
  clear c1 c2 c3 c4 c5 c6 c7 c8 c9 c10 ha hb
  refine calls_g fun g => ?_
  go_enter Try.func18, Try.ntmps18
  go_wp2_with (with_reducible refine G.any_mark _ ?_; (try generalize Array.size (World.heap (G.w _)) = bk); (try dsimp only [List.set_cons_zero, List.set_cons_succ]); (try clear g); intro g)
  refine (C1.out _).mono ?_; rintro e w1 ⟨rfl, rfl⟩
  go_wp2_with (with_reducible refine G.any_mark _ ?_; (try generalize Array.size (World.heap (G.w _)) = bk); (try dsimp only [List.set_cons_zero, List.set_cons_succ]); (try clear g); intro g)
  refine (C2.out _).mono ?_; rintro e w1 ⟨rfl, rfl⟩
  go_wp2_with (with_reducible refine G.any_mark _ ?_; (try generalize Array.size (World.heap (G.w _)) = bk); (try dsimp only [List.set_cons_zero, List.set_cons_succ]); (try clear g); intro g)
  refine (lives1_any _).mono ?_; rintro e w1 ⟨rfl, hb⟩; obtain ⟨g1, rfl⟩ := G.call_ex _ hb; clear hb; (try clear g); revert g1; intro g
  go_wp2_with (with_reducible refine G.any_mark _ ?_; (try generalize Array.size (World.heap (G.w _)) = bk); (try dsimp only [List.set_cons_zero, List.set_cons_succ]); (try clear g); intro g)
  refine (C3.out _).mono ?_; rintro e w1 ⟨rfl, rfl⟩
  go_wp2_with (with_reducible refine G.any_mark _ ?_; (try generalize Array.size (World.heap (G.w _)) = bk); (try dsimp only [List.set_cons_zero, List.set_cons_succ]); (try clear g); intro g)
  refine (C4.out _).mono ?_; rintro e w1 ⟨rfl, rfl⟩
  go_wp2_with (with_reducible refine G.any_mark _ ?_; (try generalize Array.size (World.heap (G.w _)) = bk); (try dsimp only [List.set_cons_zero, List.set_cons_succ]); (try clear g); intro g)
  refine (C5.out _).mono ?_; rintro e w1 ⟨rfl, rfl⟩
  go_wp2_with (with_reducible refine G.any_mark _ ?_; (try generalize Array.size (World.heap (G.w _)) = bk); (try dsimp only [List.set_cons_zero, List.set_cons_succ]); (try clear g); intro g)
  refine (C6.out _).mono ?_; rintro e w1 ⟨rfl, rfl⟩
  go_wp2_with (with_reducible refine G.any_mark _ ?_; (try generalize Array.size (World.heap (G.w _)) = bk); (try dsimp only [List.set_cons_zero, List.set_cons_succ]); (try clear g); intro g)
  refine (C7.out _).mono ?_; rintro e w1 ⟨rfl, rfl⟩
  go_wp2_with (with_reducible refine G.any_mark _ ?_; (try generalize Array.size (World.heap (G.w _)) = bk); (try dsimp only [List.set_cons_zero, List.set_cons_succ]); (try clear g); intro g)
  refine (C8.out _).mono ?_; rintro e w1 ⟨rfl, rfl⟩
  go_wp2_with (with_reducible refine G.any_mark _ ?_; (try generalize Array.size (World.heap (G.w _)) = bk); (try dsimp only [List.set_cons_zero, List.set_cons_succ]); (try clear g); intro g)
  refine (C9.out _).mono ?_; rintro e w1 ⟨rfl, hb⟩; obtain ⟨g1, rfl⟩ := G.call_ex _ hb; clear hb; (try clear g); revert g1; intro g
  go_wp2_with (with_reducible refine G.any_mark _ ?_; (try generalize Array.size (World.heap (G.w _)) = bk); (try dsimp only [List.set_cons_zero, List.set_cons_succ]); (try clear g); intro g)
  refine (C10.out _).mono ?_; rintro e w1 ⟨rfl, hb⟩; obtain ⟨g1, rfl⟩ := G.call_ex _ hb; clear hb; (try clear g); revert g1; intro g
  go_wp2_with (with_reducible refine G.any_mark _ ?_; (try generalize Array.size (World.heap (G.w _)) = bk); (try dsimp only [List.set_cons_zero, List.set_cons_succ]); (try clear g); intro g)
  go_ret
  exact ⟨rfl, G.below _⟩
end Go.Proofs.Ytgehbebjgmeccaa
