/- Contracts of functions of the program and of its reference, out of walks. Their conditions stand ahead of each. -/
import Derived.Test.YtgehbebjgmeccaaW59
set_option linter.unusedVariables false
set_option linter.unusedSimpArgs false
namespace Go.Proofs.Ytgehbebjgmeccaa
open Go.RowKit GW
set_option maxHeartbeats 1000000 in
theorem lives1_any (w : World) : Calls Try.prog 73 #[] w fun e w' => e = .returned (.bool true) ∧ Below w.heap.size w w' := by
  have CM : ∀ w, Calls Try.prog 67 #[.int .i64 (-3), .int .i64 5, .int .i64 1] w fun e w' => e = .returned (.tuple #[.int .i64 (-8), .int .i64 0]) ∧ Below w.heap.size w w' :=
    fun w => Mul_yes (-3) 5 1 ⟨by decide, by decide⟩ ⟨by decide, by decide⟩ (by decide) (-8) (by decide) w
  have CD : ∀ w, Calls Try.prog 69 #[.int .i64 1, .int .i64 3, .int .i64 8] w fun e w' => e = .returned (.tuple #[.int .i64 85, .int .i64 0]) ∧ Below w.heap.size w w' :=
    fun w => Div_yes 1 3 8 ⟨by decide, by decide⟩ ⟨by decide, by decide⟩ (by decide) (by decide) 85 (by decide) w
  have e1 : sat (9223372036854775807 + 1) = 9223372036854775807 := by decide
  have CA : ∀ w, Calls Try.prog 82 #[.int .i64 9223372036854775807, .int .i64 1] w fun e w' => e = .returned (.int .i64 9223372036854775807) ∧ w = w' := by
    intro w
    have := Add_any 9223372036854775807 1 ⟨by decide, by decide⟩ ⟨by decide, by decide⟩ w
    rw [e1] at this
    exact this
  have CP : ∀ w, Calls Try.prog 95 #[.int .i64 (-1), .int .i64 1] w fun e w' => e = .returned (.agg #[.int .i64 (-1), .int .u64 18446744073709551615]) ∧ Below w.heap.size w w' :=
    fun w => prod_w (-1) 1 (-1) 18446744073709551615 ⟨by decide, by decide⟩ ⟨by decide, by decide⟩ (by decide) (by decide) w
  have CM' := Lib.hid CM
  have CD' := Lib.hid CD
  have CA' := Lib.hid CA
  have CP' := Lib.hid CP
  clear CM CD CA CP e1
  refine calls_g fun g => ?_
  go_enter Try.func73, Try.ntmps73
  go_wp2_with (with_reducible refine G.any_mark _ ?_; (try generalize Array.size (World.heap (G.w _)) = bk); (try dsimp only [List.set_cons_zero, List.set_cons_succ]); (try clear g); intro g)
  refine (CM'.out _).mono ?_; rintro e w1 ⟨rfl, hb⟩; obtain ⟨g1, rfl⟩ := G.call_ex _ hb; clear hb; (try clear g); revert g1; intro g
  go_wp2_with (with_reducible refine G.any_mark _ ?_; (try generalize Array.size (World.heap (G.w _)) = bk); (try dsimp only [List.set_cons_zero, List.set_cons_succ]); (try clear g); intro g)
  refine (CD'.out _).mono ?_; rintro e w1 ⟨rfl, hb⟩; obtain ⟨g1, rfl⟩ := G.call_ex _ hb; clear hb; (try clear g); revert g1; intro g
  go_wp2_with (with_reducible refine G.any_mark _ ?_; (try generalize Array.size (World.heap (G.w _)) = bk); (try dsimp only [List.set_cons_zero, List.set_cons_succ]); (try clear g); intro g)
  refine (CA'.out _).mono ?_
  rintro e w1 ⟨rfl, rfl⟩
  go_wp2_with (first | (with_reducible refine G.any_mark _ ?_; (try generalize Array.size (World.heap (G.w _)) = bk); (try dsimp only [List.set_cons_zero, List.set_cons_succ]); (try clear g); intro g) | (go_at_call 106; go_in) | go_back)
  refine (CP'.out _).mono ?_; rintro e w1 ⟨rfl, hb⟩; obtain ⟨g1, rfl⟩ := G.call_ex _ hb; clear hb; (try clear g); revert g1; intro g
  go_wp2_with (with_reducible refine G.any_mark _ ?_; (try generalize Array.size (World.heap (G.w _)) = bk); (try dsimp only [List.set_cons_zero, List.set_cons_succ]); (try clear g); intro g)
  go_ret
  exact ⟨rfl, G.below _⟩
theorem mul_both (a b n : Int) (ha : Fx.R64 a) (hb : Fx.R64 b) : ∃ V E : Int, (∀ w, Calls Try.prog 67 #[.int .i64 a, .int .i64 b, .int .i64 n] w fun e w' => e = .returned (.tuple #[.int .i64 V, .int .i64 E]) ∧ Below w.heap.size w w') ∧
    (∀ w, Calls Try.prog 68 #[.int .i64 a, .int .i64 b, .int .i64 n] w fun e w' => e = .returned (.tuple #[.int .i64 V, .int .i64 E]) ∧ Below w.heap.size w w') := by
  by_cases h : n < 0 ∨ 126 < n
  · exact ⟨0, 2, Mul_no a b n h, rMul_no a b n h⟩
  · obtain ⟨m, rfl⟩ := Int.eq_ofNat_of_zero_le (show 0 ≤ n by omega)
    exact ⟨_, 0, fun w => Mul_yes a b m ha hb (by omega) _ rfl w, fun w => rMul_yes a b m ha hb (by omega) _ rfl w⟩
theorem div_both (a b n : Int) (ha : Fx.R64 a) (hb : Fx.R64 b) : ∃ V E : Int, (∀ w, Calls Try.prog 69 #[.int .i64 a, .int .i64 b, .int .i64 n] w fun e w' => e = .returned (.tuple #[.int .i64 V, .int .i64 E]) ∧ Below w.heap.size w w') ∧
    (∀ w, Calls Try.prog 70 #[.int .i64 a, .int .i64 b, .int .i64 n] w fun e w' => e = .returned (.tuple #[.int .i64 V, .int .i64 E]) ∧ Below w.heap.size w w') := by
  by_cases h : n < 0 ∨ 62 < n
  · exact ⟨0, 2, Div_range a b n h, rDiv_range a b n h⟩
  · by_cases hz : b = 0
    · subst hz
      exact ⟨0, 6, Div_zero a n (by omega) (by omega), rDiv_zero a n (by omega) (by omega)⟩
    · obtain ⟨m, rfl⟩ := Int.eq_ofNat_of_zero_le (show 0 ≤ n by omega)
      exact ⟨_, 0, fun w => Div_yes a b m ha hb hz (by omega) _ rfl w, fun w => rDiv_yes a b m ha hb hz (by omega) _ rfl w⟩
theorem ratio_both (a b c : Int) (ha : Fx.R64 a) (hb : Fx.R64 b) (hc : Fx.R64 c) : ∃ V E : Int, (∀ w, Calls Try.prog 71 #[.int .i64 a, .int .i64 b, .int .i64 c] w fun e w' => e = .returned (.tuple #[.int .i64 V, .int .i64 E]) ∧ Below w.heap.size w w') ∧
    (∀ w, Calls Try.prog 72 #[.int .i64 a, .int .i64 b, .int .i64 c] w fun e w' => e = .returned (.tuple #[.int .i64 V, .int .i64 E]) ∧ Below w.heap.size w w') := by
  by_cases hz : c = 0
  · subst hz
    exact ⟨0, 6, Ratio_zero a b, rRatio_zero a b⟩
  · exact ⟨_, 0, fun w => Ratio_yes a b c ha hb hc hz _ rfl w, fun w => rRatio_yes a b c ha hb hc hz _ rfl w⟩
set_option maxHeartbeats 1000000 in
set_option maxRecDepth 100000 in
theorem products_walk (a b n c : Int) (ha : Fx.R64 a) (hb : Fx.R64 b) (hc : Fx.R64 c) (w : World) :
    Calls Try.prog 15 #[.int .i64 a, .int .i64 b, .int .i64 n, .int .i64 c] w fun e w' => e = .returned (.bool true) ∧ Below w.heap.size w w' := by
  obtain ⟨V1, E1, m1, m2⟩ := mul_both a b n ha hb
  obtain ⟨V2, E2, d1, d2⟩ := div_both a b n ha hb
  obtain ⟨V3, E3, r1, r2⟩ := ratio_both a b c ha hb hc
  have M1 := Lib.hid m1
  have M2 := Lib.hid m2
  have D1 := Lib.hid d1
  have D2 := Lib.hid d2
  have R1 := Lib.hid r1
  have R2 := Lib.hid r2
  clear m1 m2 d1 d2 r1 r2 ha hb hc
  refine calls_g fun g => ?_
  go_enter Try.func15, Try.ntmps15
  go_wp2_with (with_reducible refine G.any_mark _ ?_; (try generalize Array.size (World.heap (G.w _)) = bk); (try dsimp only [List.set_cons_zero, List.set_cons_succ]); (try clear g); intro g)
  refine (M1.out _).mono ?_; rintro e w1 ⟨rfl, hb⟩; obtain ⟨g1, rfl⟩ := G.call_ex _ hb; clear hb; (try clear g); revert g1; intro g
  go_wp2_with (with_reducible refine G.any_mark _ ?_; (try generalize Array.size (World.heap (G.w _)) = bk); (try dsimp only [List.set_cons_zero, List.set_cons_succ]); (try clear g); intro g)
  refine (M2.out _).mono ?_; rintro e w1 ⟨rfl, hb⟩; obtain ⟨g1, rfl⟩ := G.call_ex _ hb; clear hb; (try clear g); revert g1; intro g
  go_wp2_with (with_reducible refine G.any_mark _ ?_; (try generalize Array.size (World.heap (G.w _)) = bk); (try dsimp only [List.set_cons_zero, List.set_cons_succ]); (try clear g); intro g)
  refine (D1.out _).mono ?_; rintro e w1 ⟨rfl, hb⟩; obtain ⟨g1, rfl⟩ := G.call_ex _ hb; clear hb; (try clear g); revert g1; intro g
  go_wp2_with (with_reducible refine G.any_mark _ ?_; (try generalize Array.size (World.heap (G.w _)) = bk); (try dsimp only [List.set_cons_zero, List.set_cons_succ]); (try clear g); intro g)
  refine (D2.out _).mono ?_; rintro e w1 ⟨rfl, hb⟩; obtain ⟨g1, rfl⟩ := G.call_ex _ hb; clear hb; (try clear g); revert g1; intro g
  go_wp2_with (with_reducible refine G.any_mark _ ?_; (try generalize Array.size (World.heap (G.w _)) = bk); (try dsimp only [List.set_cons_zero, List.set_cons_succ]); (try clear g); intro g)
  refine (R1.out _).mono ?_; rintro e w1 ⟨rfl, hb⟩; obtain ⟨g1, rfl⟩ := G.call_ex _ hb; clear hb; (try clear g); revert g1; intro g
  go_wp2_with (with_reducible refine G.any_mark _ ?_; (try generalize Array.size (World.heap (G.w _)) = bk); (try dsimp only [List.set_cons_zero, List.set_cons_succ]); (try clear g); intro g)
  refine (R2.out _).mono ?_; rintro e w1 ⟨rfl, hb⟩; obtain ⟨g1, rfl⟩ := G.call_ex _ hb; clear hb; (try clear g); revert g1; intro g
  go_wp2_with (with_reducible refine G.any_mark _ ?_; (try generalize Array.size (World.heap (G.w _)) = bk); (try dsimp only [List.set_cons_zero, List.set_cons_succ]); (try clear g); intro g)
  refine (lives1_any _).mono ?_; rintro e w1 ⟨rfl, hb⟩; obtain ⟨g1, rfl⟩ := G.call_ex _ hb; clear hb; (try clear g); revert g1; intro g
  go_wp2_with (with_reducible refine G.any_mark _ ?_; (try generalize Array.size (World.heap (G.w _)) = bk); (try dsimp only [List.set_cons_zero, List.set_cons_succ]); (try clear g); intro g)
  go_ret
  exact ⟨rfl, G.below _⟩
end Go.Proofs.Ytgehbebjgmeccaa
