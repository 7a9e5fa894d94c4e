/- Contracts of functions of the program and of its reference, out of walks. Their conditions stand ahead of each. -/
import Derived.Test.YtgehbebjgmeccaaW52
set_option linter.unusedVariables false
set_option linter.unusedSimpArgs false
namespace Go.Proofs.Ytgehbebjgmeccaa
open Go.RowKit GW
theorem hup_le2 (p d : Int) (h : 0 ≤ p) (hd : 1 ≤ d) : 0 ≤ Fx.hup p d ∧ Fx.hup p d ≤ p + 1 := by
  unfold Fx.hup
  refine ⟨Int.ediv_nonneg (by omega) (by omega), ?_⟩
  have : (2 * p + d) / (2 * d) < p + 2 := by
    refine Int.ediv_lt_of_lt_mul (by omega) ?_
    have := Int.mul_le_mul_of_nonneg_left hd h
    have e : (p + 2) * (2 * d) = 2 * (p * d) + 4 * d := by grind
    rw [e]; omega
  omega
theorem Div_range (a b n : Int) (hn : n < 0 ∨ 62 < n) (w : World) :
    Calls Try.prog 69 #[.int .i64 a, .int .i64 b, .int .i64 n] w fun e w' => e = .returned (.tuple #[.int .i64 0, .int .i64 2]) ∧ Below w.heap.size w w' := by
  by_cases h1 : n < 0
  · refine calls_g fun g => ?_
    go_enter Try.func69, Try.ntmps69
    go_wp2_with (first | (with_reducible refine G.any_mark _ ?_; (try generalize Array.size (World.heap (G.w _)) = bk); (try dsimp only [List.set_cons_zero, List.set_cons_succ]); (try clear g); intro g) | (go_at_call 142; go_in) | (go_at_call 149; go_in) | (go_at_call 141; go_in) | (go_at_call 175; go_in) | (go_at_call 177; go_in) | go_back | (refine wp_loop_rounds 3 ?_; rw [rounds_succ]) | rw [rounds_succ])
    go_ret2
    exact ⟨rfl, G.below _⟩
  · have h2 : 62 < n := by omega
    refine calls_g fun g => ?_
    go_enter Try.func69, Try.ntmps69
    go_wp2_with (first | (with_reducible refine G.any_mark _ ?_; (try generalize Array.size (World.heap (G.w _)) = bk); (try dsimp only [List.set_cons_zero, List.set_cons_succ]); (try clear g); intro g) | (go_at_call 142; go_in) | (go_at_call 149; go_in) | (go_at_call 141; go_in) | (go_at_call 175; go_in) | (go_at_call 177; go_in) | go_back | (refine wp_loop_rounds 3 ?_; rw [rounds_succ]) | rw [rounds_succ])
    go_ret2
    exact ⟨rfl, G.below _⟩
theorem Div_zero (a n : Int) (n0 : 0 ≤ n) (n1 : n ≤ 62) (w : World) :
    Calls Try.prog 69 #[.int .i64 a, .int .i64 0, .int .i64 n] w fun e w' => e = .returned (.tuple #[.int .i64 0, .int .i64 6]) ∧ Below w.heap.size w w' := by
  have n2 : ¬ n < 0 := by omega
  have n3 : ¬ 62 < n := by omega
  refine calls_g fun g => ?_
  go_enter Try.func69, Try.ntmps69
  go_wp2_with (first | (with_reducible refine G.any_mark _ ?_; (try generalize Array.size (World.heap (G.w _)) = bk); (try dsimp only [List.set_cons_zero, List.set_cons_succ]); (try clear g); intro g) | (go_at_call 142; go_in) | (go_at_call 149; go_in) | (go_at_call 141; go_in) | (go_at_call 175; go_in) | (go_at_call 177; go_in) | go_back | (refine wp_loop_rounds 3 ?_; rw [rounds_succ]) | rw [rounds_succ])
  go_ret2
  exact ⟨rfl, G.below _⟩
theorem Ratio_zero (a b : Int) (w : World) :
    Calls Try.prog 71 #[.int .i64 a, .int .i64 b, .int .i64 0] w fun e w' => e = .returned (.tuple #[.int .i64 0, .int .i64 6]) ∧ Below w.heap.size w w' := by
  refine calls_g fun g => ?_
  go_enter Try.func71, Try.ntmps71
  go_wp2_with (first | (with_reducible refine G.any_mark _ ?_; (try generalize Array.size (World.heap (G.w _)) = bk); (try dsimp only [List.set_cons_zero, List.set_cons_succ]); (try clear g); intro g) | (go_at_call 142; go_in) | (go_at_call 149; go_in) | (go_at_call 141; go_in) | (go_at_call 175; go_in) | (go_at_call 177; go_in) | go_back | (refine wp_loop_rounds 3 ?_; rw [rounds_succ]) | rw [rounds_succ])
  go_ret2
  exact ⟨rfl, G.below _⟩
def dvV (a b : Int) (n : Nat) : Int := Fx.sgV (sgN a b) (Fx.hup (az a * 2 ^ n) (az b))
def rtV (a b c : Int) : Int := Fx.sgV (sgN a b != decide (c < 0)) (Fx.hup (az a * az b) (az c))
theorem az_pos {a : Int} (h : a ≠ 0) : 1 ≤ az a := by unfold az; split <;> omega
theorem pow62 {n : Nat} (h : n ≤ 62) : (2 : Int) ^ n ≤ 4611686018427387904 := by
  have h2 : (2 : Nat) ^ n ≤ 4611686018427387904 := by
    have := Nat.pow_le_pow_right (n := 2) (by omega) h
    rwa [show (2 : Nat) ^ 62 = 4611686018427387904 by decide] at this
  have h3 := Int.ofNat_le.2 h2
  rw [Int.natCast_pow] at h3
  exact h3
set_option maxHeartbeats 2000000 in
theorem Div_yes (a b : Int) (n : Nat) (ha : Fx.R64 a) (hb : Fx.R64 b) (b0 : b ≠ 0) (hn : n ≤ 62) (V : Int) (hV : dvV a b n = V) (w : World) :
    Calls Try.prog 69 #[.int .i64 a, .int .i64 b, .int .i64 n] w fun e w' => e = .returned (.tuple #[.int .i64 V, .int .i64 0]) ∧ Below w.heap.size w w' := by
  obtain ⟨A, eA⟩ : ∃ v, az a = v := ⟨_, rfl⟩
  obtain ⟨B, eB⟩ : ∃ v, az b = v := ⟨_, rfl⟩
  have uA := az_u ha
  have uB := az_u hb
  have pB := az_pos b0
  rw [eA] at uA
  rw [eB] at uB pB
  have K0 := Fx.pow_pos' n
  have K1 := pow62 hn
  unfold dvV sgN at hV
  rw [eA, eB] at hV
  have wK : IntKind.u64.wrap (2 ^ n) = 2 ^ n := by rw [IntKind.wrap_u64]; omega
  have pu := prod_u ⟨uA.2.2, uA.2.1⟩ (B := 2 ^ n) ⟨by omega, by omega⟩
  generalize hK : (2 : Int) ^ n = K at *
  obtain ⟨H1, e1⟩ : ∃ v, A * K / 18446744073709551616 = v := ⟨_, rfl⟩
  obtain ⟨L1, e2⟩ : ∃ v, A * K % 18446744073709551616 = v := ⟨_, rfl⟩
  have q := hup_le2 (A * K) B pu.1 pB
  have u1 : Fx.U64 H1 ∧ Fx.U64 L1 ∧ Fx.wd H1 L1 = A * K := by unfold Fx.U64 Fx.wd; omega
  obtain ⟨H2, e3⟩ : ∃ v, Fx.hup (A * K) B / 18446744073709551616 = v := ⟨_, rfl⟩
  obtain ⟨L2, e4⟩ : ∃ v, Fx.hup (A * K) B % 18446744073709551616 = v := ⟨_, rfl⟩
  have u2 : Fx.U64 H2 ∧ Fx.U64 L2 ∧ Fx.wd H2 L2 = Fx.hup (A * K) B := by unfold Fx.U64 Fx.wd; omega
  have CA := Lib.hid (fun w => size_w a A ha eA w)
  have CB := Lib.hid (fun w => size_w b B hb eB w)
  have CT := Lib.hid (fun w => times_w A K H1 L1 uA.1 (by unfold Fx.U64; omega) e1 e2 w)
  have CO := Lib.hid (fun w => over_w H1 L1 B H2 L2 u1.1 u1.2.1 pB (by have := uB.2.1; omega) (by rw [u1.2.2]; exact e3) (by rw [u1.2.2]; exact e4) (by rw [u1.2.2]; omega) w)
  have CV := Lib.hid (fun w => value_w H2 L2 V (decide (a < 0) != decide (b < 0)) u2.1 u2.2.1 (by rw [u2.2.2]; exact hV) w)
  have n0 : (0 : Int) ≤ n := by omega
  have n1 : (n : Int) ≤ 62 := by omega
  have t0 : (b == 0) = false := by simpa using b0
  clear u1 u2 e1 e2 e3 e4 q pu hV uA uB eA eB ha hb hn K0 K1 pB
  refine calls_g fun g => ?_
  go_enter Try.func69, Try.ntmps69
  go_wp2_with (first | (with_reducible refine G.any_mark _ ?_; (try generalize Array.size (World.heap (G.w _)) = bk); (try dsimp only [List.set_cons_zero, List.set_cons_succ]); (try clear g); intro g) | (go_at_call 142; go_in) | (go_at_call 149; go_in) | (go_at_call 141; go_in) | (go_at_call 175; go_in) | (go_at_call 177; go_in) | go_back | (refine wp_loop_rounds 3 ?_; rw [rounds_succ]) | rw [rounds_succ])
  go_region_held3 (fun _ => True) (trivial) (first | (go_at_call 144; (first | (with_reducible refine (CA.out _).mono ?_) | (with_reducible refine (CB.out _).mono ?_)); rintro e w1 ⟨rfl, hb⟩; obtain ⟨g1, rfl⟩ := G.call_ex _ hb; clear hb; (try clear g); revert g1; intro g) | (go_at_call 143; refine (CT.out _).mono ?_; rintro e w1 ⟨rfl, hb⟩; obtain ⟨g1, rfl⟩ := G.call_ex _ hb; clear hb; (try clear g); revert g1; intro g) | (go_at_call 150; refine (CO.out _).mono ?_; rintro e w1 ⟨rfl, hb⟩; obtain ⟨g1, rfl⟩ := G.call_ex _ hb; clear hb; (try clear g); revert g1; intro g) | (go_at_call 146; refine (CV.out _).mono ?_; rintro e w1 ⟨rfl, hb⟩; obtain ⟨g1, rfl⟩ := G.call_ex _ hb; clear hb; (try clear g); revert g1; intro g))
  all_goals
    (try ((try simp only [G.drew_eq, G.drewN_eq]); (refine G.any_mark _ ?_; (try generalize Array.size (World.heap (G.w _)) = bk); (try dsimp only [List.set_cons_zero, List.set_cons_succ]); (try clear g); intro g)))
    go_wp2_with (with_reducible refine G.any_mark _ ?_; (try generalize Array.size (World.heap (G.w _)) = bk); (try dsimp only [List.set_cons_zero, List.set_cons_succ]); (try clear g); intro g)
    go_ret2
    exact ⟨rfl, G.below _⟩
end Go.Proofs.Ytgehbebjgmeccaa
