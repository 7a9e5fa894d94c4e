/- Contracts of functions of the program and of its reference, out of walks. Their conditions stand ahead of each. -/
import Derived.Test.YtgehbebjgmeccaaW49
set_option linter.unusedVariables false
set_option linter.unusedSimpArgs false
namespace Go.Proofs.Ytgehbebjgmeccaa
open Go.RowKit GW
theorem Mul_no (a b n : Int) (hn : n < 0 ∨ 126 < n) (w : World) :
    Calls Try.prog 67 #[.int .i64 a, .int .i64 b, .int .i64 n] w fun e w' => e = .returned (.tuple #[.int .i64 0, .int .i64 2]) ∧ Below w.heap.size w w' := by
  by_cases h1 : n < 0
  · refine calls_g fun g => ?_
    go_enter Try.func67, Try.ntmps67
    go_wp2_with (first | (with_reducible refine G.any_mark _ ?_; (try generalize Array.size (World.heap (G.w _)) = bk); (try dsimp only [List.set_cons_zero, List.set_cons_succ]); (try clear g); intro g) | (go_at_call 142; go_in) | (go_at_call 149; go_in) | (go_at_call 141; go_in) | (go_at_call 175; go_in) | (go_at_call 177; go_in) | go_back | (refine wp_loop_rounds 3 ?_; rw [rounds_succ]) | rw [rounds_succ])
    go_ret2
    exact ⟨rfl, G.below _⟩
  · have h2 : 126 < n := by omega
    refine calls_g fun g => ?_
    go_enter Try.func67, Try.ntmps67
    go_wp2_with (first | (with_reducible refine G.any_mark _ ?_; (try generalize Array.size (World.heap (G.w _)) = bk); (try dsimp only [List.set_cons_zero, List.set_cons_succ]); (try clear g); intro g) | (go_at_call 142; go_in) | (go_at_call 149; go_in) | (go_at_call 141; go_in) | (go_at_call 175; go_in) | (go_at_call 177; go_in) | go_back | (refine wp_loop_rounds 3 ?_; rw [rounds_succ]) | rw [rounds_succ])
    go_ret2
    exact ⟨rfl, G.below _⟩
/-- the sign of a product or a quotient -/
def sgN (a b : Int) : Bool := decide (a < 0) != decide (b < 0)
def mlV (a b : Int) (n : Nat) : Int := Fx.sgV (sgN a b) (Fx.hup (az a * az b) (2 ^ n))
theorem times_w (x y H L : Int) (hx : Fx.U64 x) (hy : Fx.U64 y) (hH : x * y / 18446744073709551616 = H) (hL : x * y % 18446744073709551616 = L) (w : World) :
    Calls Try.prog 143 #[.int .u64 x, .int .u64 y] w fun e w' => e = .returned (.agg #[.int .u64 H, .int .u64 L]) ∧ Below w.heap.size w w' := by
  subst hH; subst hL; exact times_any x y hx hy w
theorem size_w (a A : Int) (h : Fx.R64 a) (hA : az a = A) (w : World) :
    Calls Try.prog 144 #[.int .i64 a] w fun e w' => e = .returned (.int .u64 A) ∧ Below w.heap.size w w' := by
  subst hA; exact (size_any a h.1 h.2 w).mono fun e w' ⟨h1, h2⟩ => ⟨h1, by rw [h2]; exact Below.refl _ _⟩
theorem halved_w (h l H L : Int) (n : Nat) (h0 : Fx.U64 h) (l0 : Fx.U64 l) (n1 : n ≤ 127) (h5 : Fx.hup (Fx.wd h l) (2 ^ n) / 18446744073709551616 = H) (h6 : Fx.hup (Fx.wd h l) (2 ^ n) % 18446744073709551616 = L) (w : World) :
    Calls Try.prog 145 #[.agg #[.int .u64 h, .int .u64 l], .int .i64 n] w fun e w' => e = .returned (.agg #[.int .u64 H, .int .u64 L]) ∧ Below w.heap.size w w' := by
  cases n with
  | zero =>
    rw [hup_one] at h5 h6
    unfold Fx.wd Fx.U64 at *
    obtain rfl : h = H := by omega
    obtain rfl : l = L := by omega
    exact halved_0 h l w
  | succ n => exact halved_s h l H L n h0 l0 n1 h5 h6 w
theorem value_w (h l V : Int) (neg : Bool) (h0 : Fx.U64 h) (l0 : Fx.U64 l) (hV : Fx.sgV neg (Fx.wd h l) = V) (w : World) :
    Calls Try.prog 146 #[.agg #[.int .u64 h, .int .u64 l], .bool neg] w fun e w' => e = .returned (.int .i64 V) ∧ Below w.heap.size w w' := by
  subst hV; exact value_any h l neg h0 l0 w
theorem az_u {a : Int} (h : Fx.R64 a) : Fx.U64 (az a) ∧ az a ≤ 9223372036854775808 ∧ 0 ≤ az a := by
  have := az_bd a h.1 h.2
  unfold Fx.U64; omega
theorem prod_u {A B : Int} (hA : 0 ≤ A ∧ A ≤ 9223372036854775808) (hB : 0 ≤ B ∧ B ≤ 9223372036854775808) : 0 ≤ A * B ∧ A * B ≤ 85070591730234615865843651857942052864 := by
  refine ⟨Int.mul_nonneg hA.1 hB.1, ?_⟩
  have := Int.mul_le_mul hA.2 hB.2 hB.1 (by omega)
  simpa using this
theorem hup_le (p : Int) (n : Nat) (h : 0 ≤ p) : 0 ≤ Fx.hup p (2 ^ n) ∧ Fx.hup p (2 ^ n) ≤ p + 1 := by
  have k := Fx.pow_pos' n
  unfold Fx.hup
  generalize (2 : Int) ^ n = K at *
  refine ⟨Int.ediv_nonneg (by omega) (by omega), ?_⟩
  have : (2 * p + K) / (2 * K) < p + 2 := by
    refine Int.ediv_lt_of_lt_mul (by omega) ?_
    have := Int.mul_le_mul_of_nonneg_left (show (1 : Int) ≤ K by omega) h
    have e : (p + 2) * (2 * K) = 2 * (p * K) + 4 * K := by grind
    rw [e]; omega
  omega
set_option maxHeartbeats 1000000 in
theorem Mul_yes (a b : Int) (n : Nat) (ha : Fx.R64 a) (hb : Fx.R64 b) (hn : n ≤ 126) (V : Int) (hV : mlV a b n = V) (w : World) :
    Calls Try.prog 67 #[.int .i64 a, .int .i64 b, .int .i64 n] w fun e w' => e = .returned (.tuple #[.int .i64 V, .int .i64 0]) ∧ Below w.heap.size w w' := by
  obtain ⟨A, eA⟩ : ∃ v, az a = v := ⟨_, rfl⟩
  obtain ⟨B, eB⟩ : ∃ v, az b = v := ⟨_, rfl⟩
  have uA := az_u ha
  have uB := az_u hb
  rw [eA] at uA
  rw [eB] at uB
  have pu := prod_u ⟨uA.2.2, uA.2.1⟩ ⟨uB.2.2, uB.2.1⟩
  unfold mlV sgN at hV
  rw [eA, eB] at hV
  obtain ⟨H1, e1⟩ : ∃ v, A * B / 18446744073709551616 = v := ⟨_, rfl⟩
  obtain ⟨L1, e2⟩ : ∃ v, A * B % 18446744073709551616 = v := ⟨_, rfl⟩
  have q := hup_le (A * B) n pu.1
  have u1 : Fx.U64 H1 ∧ Fx.U64 L1 ∧ Fx.wd H1 L1 = A * B := by unfold Fx.U64 Fx.wd; omega
  obtain ⟨H2, e3⟩ : ∃ v, Fx.hup (A * B) (2 ^ n) / 18446744073709551616 = v := ⟨_, rfl⟩
  obtain ⟨L2, e4⟩ : ∃ v, Fx.hup (A * B) (2 ^ n) % 18446744073709551616 = v := ⟨_, rfl⟩
  have u2 : Fx.U64 H2 ∧ Fx.U64 L2 ∧ Fx.wd H2 L2 = Fx.hup (A * B) (2 ^ n) := by unfold Fx.U64 Fx.wd; omega
  have CA := Lib.hid (fun w => size_w a A ha eA w)
  have CB := Lib.hid (fun w => size_w b B hb eB w)
  have CT := Lib.hid (fun w => times_w A B H1 L1 uA.1 uB.1 e1 e2 w)
  have CH := Lib.hid (fun w => halved_w H1 L1 H2 L2 n u1.1 u1.2.1 (by omega) (by rw [u1.2.2]; exact e3) (by rw [u1.2.2]; exact e4) w)
  have CV := Lib.hid (fun w => value_w H2 L2 V (decide (a < 0) != decide (b < 0)) u2.1 u2.2.1 (by rw [u2.2.2]; exact hV) w)
  have n0 : (0 : Int) ≤ n := by omega
  have n1 : (n : Int) ≤ 126 := by omega
  clear u1 u2 e1 e2 e3 e4 q pu hV uA uB eA eB ha hb hn
  refine calls_g fun g => ?_
  go_enter Try.func67, Try.ntmps67
  go_wp2_with (first | (with_reducible refine G.any_mark _ ?_; (try generalize Array.size (World.heap (G.w _)) = bk); (try dsimp only [List.set_cons_zero, List.set_cons_succ]); (try clear g); intro g) | (go_at_call 142; go_in) | (go_at_call 149; go_in) | (go_at_call 141; go_in) | (go_at_call 175; go_in) | (go_at_call 177; go_in) | go_back | (refine wp_loop_rounds 3 ?_; rw [rounds_succ]) | rw [rounds_succ])
  refine (CA.out _).mono ?_; rintro e w1 ⟨rfl, hb⟩; obtain ⟨g1, rfl⟩ := G.call_ex _ hb; clear hb; (try clear g); revert g1; intro g
  go_wp2_with (with_reducible refine G.any_mark _ ?_; (try generalize Array.size (World.heap (G.w _)) = bk); (try dsimp only [List.set_cons_zero, List.set_cons_succ]); (try clear g); intro g)
  refine (CB.out _).mono ?_; rintro e w1 ⟨rfl, hb⟩; obtain ⟨g1, rfl⟩ := G.call_ex _ hb; clear hb; (try clear g); revert g1; intro g
  go_wp2_with (with_reducible refine G.any_mark _ ?_; (try generalize Array.size (World.heap (G.w _)) = bk); (try dsimp only [List.set_cons_zero, List.set_cons_succ]); (try clear g); intro g)
  refine (CT.out _).mono ?_; rintro e w1 ⟨rfl, hb⟩; obtain ⟨g1, rfl⟩ := G.call_ex _ hb; clear hb; (try clear g); revert g1; intro g
  go_wp2_with (with_reducible refine G.any_mark _ ?_; (try generalize Array.size (World.heap (G.w _)) = bk); (try dsimp only [List.set_cons_zero, List.set_cons_succ]); (try clear g); intro g)
  refine (CH.out _).mono ?_; rintro e w1 ⟨rfl, hb⟩; obtain ⟨g1, rfl⟩ := G.call_ex _ hb; clear hb; (try clear g); revert g1; intro g
  go_wp2_with (with_reducible refine G.any_mark _ ?_; (try generalize Array.size (World.heap (G.w _)) = bk); (try dsimp only [List.set_cons_zero, List.set_cons_succ]); (try clear g); intro g)
  refine (CV.out _).mono ?_; rintro e w1 ⟨rfl, hb⟩; obtain ⟨g1, rfl⟩ := G.call_ex _ hb; clear hb; (try clear g); revert g1; intro g
  go_wp2_with (with_reducible refine G.any_mark _ ?_; (try generalize Array.size (World.heap (G.w _)) = bk); (try dsimp only [List.set_cons_zero, List.set_cons_succ]); (try clear g); intro g)
  go_ret2
  exact ⟨rfl, G.below _⟩
end Go.Proofs.Ytgehbebjgmeccaa
