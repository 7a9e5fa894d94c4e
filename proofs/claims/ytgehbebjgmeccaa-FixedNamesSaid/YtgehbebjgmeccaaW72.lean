/- Contracts of functions of the program and of its reference, out of walks. Their conditions stand ahead of each. -/
import Derived.Test.YtgehbebjgmeccaaW70
import Derived.Test.YtgehbebjgmeccaaW27
set_option linter.unusedVariables false
set_option linter.unusedSimpArgs false
namespace Go.Proofs.Ytgehbebjgmeccaa
open Go.RowKit GW
theorem cmp_w (a b c d V : Int) (hV : orV (sg a c) (sg b d) = V) (w : World) : Calls Try.prog 99 #[.agg #[.int .i64 a, .int .u64 b], .agg #[.int .i64 c, .int .u64 d]] w fun e w' => e = .returned (.int .i64 V) ∧ Below w.heap.size w w' := by
  subst hV; exact Cmp_any a b c d w
set_option maxHeartbeats 8000000 in
set_option maxRecDepth 100000 in
theorem fnames_walk (w : World) : Calls Try.prog 23 #[] w fun e w' => e = .returned (.bool true) ∧ Below w.heap.size w w' := by
  have c1 : ∀ w, Calls Try.prog 84 #[.int .i64 (-9223372036854775808), .int .i64 1] w fun e w' => e = .returned (.int .i64 (-9223372036854775808)) ∧ w = w' := by
    intro w
    have e0 : sat ((-9223372036854775808) - 1) = (-9223372036854775808) := by decide
    have := Sub_any (-9223372036854775808) 1 ⟨by decide, by decide⟩ ⟨by decide, by decide⟩ w
    rw [e0] at this
    exact this
  have c2 : ∀ w, Calls Try.prog 86 #[.int .i64 (-9223372036854775808)] w fun e w' => e = .returned (.int .i64 9223372036854775807) ∧ w = w' := by
    intro w
    have e0 : sat (0 - (-9223372036854775808)) = 9223372036854775807 := by decide
    have := Neg_any (-9223372036854775808) ⟨by decide, by decide⟩ w
    rw [e0] at this
    exact this
  have c3 : ∀ w, Calls Try.prog 82 #[.int .i64 3, .int .i64 (-5)] w fun e w' => e = .returned (.int .i64 (-2)) ∧ w = w' := by
    intro w
    have e0 : sat (3 + (-5)) = (-2) := by decide
    have := Add_any 3 (-5) ⟨by decide, by decide⟩ ⟨by decide, by decide⟩ w
    rw [e0] at this
    exact this
  have c4 : ∀ w, Calls Try.prog 88 #[.int .i64 5, .int .i64 (-1)] w fun e w' => e = .returned (.int .i64 3) ∧ Below w.heap.size w w' := by
    intro w
    have e0 : shV 5 (-1) = 3 := by decide
    have := Shift_any 5 (-1) ⟨by decide, by decide⟩ w
    rw [e0] at this
    exact this
  have c5 : ∀ w, Calls Try.prog 88 #[.int .i64 (-5), .int .i64 (-1)] w fun e w' => e = .returned (.int .i64 (-3)) ∧ Below w.heap.size w w' := by
    intro w
    have e0 : shV (-5) (-1) = (-3) := by decide
    have := Shift_any (-5) (-1) ⟨by decide, by decide⟩ w
    rw [e0] at this
    exact this
  have c6 : ∀ w, Calls Try.prog 88 #[.int .i64 1, .int .i64 62] w fun e w' => e = .returned (.int .i64 4611686018427387904) ∧ Below w.heap.size w w' := by
    intro w
    have e0 : shV 1 62 = 4611686018427387904 := by decide
    have := Shift_any 1 62 ⟨by decide, by decide⟩ w
    rw [e0] at this
    exact this
  have c7 : ∀ w, Calls Try.prog 88 #[.int .i64 1, .int .i64 63] w fun e w' => e = .returned (.int .i64 9223372036854775807) ∧ Below w.heap.size w w' := by
    intro w
    have e0 : shV 1 63 = 9223372036854775807 := by decide
    have := Shift_any 1 63 ⟨by decide, by decide⟩ w
    rw [e0] at this
    exact this
  have c8 : ∀ w, Calls Try.prog 88 #[.int .i64 (-1), .int .i64 63] w fun e w' => e = .returned (.int .i64 (-9223372036854775808)) ∧ Below w.heap.size w w' := by
    intro w
    have e0 : shV (-1) 63 = (-9223372036854775808) := by decide
    have := Shift_any (-1) 63 ⟨by decide, by decide⟩ w
    rw [e0] at this
    exact this
  have c9 : ∀ w, Calls Try.prog 88 #[.int .i64 7, .int .i64 (-200)] w fun e w' => e = .returned (.int .i64 0) ∧ Below w.heap.size w w' := by
    intro w
    have e0 : shV 7 (-200) = 0 := by decide
    have := Shift_any 7 (-200) ⟨by decide, by decide⟩ w
    rw [e0] at this
    exact this
  have c10 : ∀ w, Calls Try.prog 88 #[.int .i64 4, .int .i64 (-3)] w fun e w' => e = .returned (.int .i64 1) ∧ Below w.heap.size w w' := by
    intro w
    have e0 : shV 4 (-3) = 1 := by decide
    have := Shift_any 4 (-3) ⟨by decide, by decide⟩ w
    rw [e0] at this
    exact this
  have c11 : ∀ w, Calls Try.prog 88 #[.int .i64 (-9223372036854775808), .int .i64 (-64)] w fun e w' => e = .returned (.int .i64 (-1)) ∧ Below w.heap.size w w' := by
    intro w
    have e0 : shV (-9223372036854775808) (-64) = (-1) := by decide
    have := Shift_any (-9223372036854775808) (-64) ⟨by decide, by decide⟩ w
    rw [e0] at this
    exact this
  have c12 : ∀ w, Calls Try.prog 67 #[.int .i64 3, .int .i64 5, .int .i64 1] w fun e w' => e = .returned (.tuple #[.int .i64 8, .int .i64 0]) ∧ Below w.heap.size w w' := Mul_yes 3 5 1 ⟨by decide, by decide⟩ ⟨by decide, by decide⟩ (by decide) 8 (by decide)
  have c13 : ∀ w, Calls Try.prog 67 #[.int .i64 4611686018427387904, .int .i64 8, .int .i64 3] w fun e w' => e = .returned (.tuple #[.int .i64 4611686018427387904, .int .i64 0]) ∧ Below w.heap.size w w' := Mul_yes 4611686018427387904 8 3 ⟨by decide, by decide⟩ ⟨by decide, by decide⟩ (by decide) 4611686018427387904 (by decide)
  have c14 : ∀ w, Calls Try.prog 67 #[.int .i64 4611686018427387904, .int .i64 8, .int .i64 0] w fun e w' => e = .returned (.tuple #[.int .i64 9223372036854775807, .int .i64 0]) ∧ Below w.heap.size w w' := Mul_yes 4611686018427387904 8 0 ⟨by decide, by decide⟩ ⟨by decide, by decide⟩ (by decide) 9223372036854775807 (by decide)
  have c15 : ∀ w, Calls Try.prog 67 #[.int .i64 1, .int .i64 1, .int .i64 127] w fun e w' => e = .returned (.tuple #[.int .i64 0, .int .i64 2]) ∧ Below w.heap.size w w' := Mul_no 1 1 127 (by decide)
  have c16 : ∀ w, Calls Try.prog 67 #[.int .i64 (-9223372036854775808), .int .i64 (-9223372036854775808), .int .i64 126] w fun e w' => e = .returned (.tuple #[.int .i64 1, .int .i64 0]) ∧ Below w.heap.size w w' := Mul_yes (-9223372036854775808) (-9223372036854775808) 126 ⟨by decide, by decide⟩ ⟨by decide, by decide⟩ (by decide) 1 (by decide)
  have c17 : ∀ w, Calls Try.prog 69 #[.int .i64 (-7), .int .i64 2, .int .i64 0] w fun e w' => e = .returned (.tuple #[.int .i64 (-4), .int .i64 0]) ∧ Below w.heap.size w w' := Div_yes (-7) 2 0 ⟨by decide, by decide⟩ ⟨by decide, by decide⟩ (by decide) (by decide) (-4) (by decide)
  have c18 : ∀ w, Calls Try.prog 69 #[.int .i64 1, .int .i64 0, .int .i64 1] w fun e w' => e = .returned (.tuple #[.int .i64 0, .int .i64 6]) ∧ Below w.heap.size w w' := Div_zero 1 1 (by decide) (by decide)
  have c19 : ∀ w, Calls Try.prog 69 #[.int .i64 1, .int .i64 1, .int .i64 63] w fun e w' => e = .returned (.tuple #[.int .i64 0, .int .i64 2]) ∧ Below w.heap.size w w' := Div_range 1 1 63 (by decide)
  have c20 : ∀ w, Calls Try.prog 69 #[.int .i64 1, .int .i64 0, .int .i64 63] w fun e w' => e = .returned (.tuple #[.int .i64 0, .int .i64 2]) ∧ Below w.heap.size w w' := Div_range 1 0 63 (by decide)
  have c21 : ∀ w, Calls Try.prog 71 #[.int .i64 299792458, .int .i64 7, .int .i64 1000000] w fun e w' => e = .returned (.tuple #[.int .i64 2099, .int .i64 0]) ∧ Below w.heap.size w w' := Ratio_yes 299792458 7 1000000 ⟨by decide, by decide⟩ ⟨by decide, by decide⟩ ⟨by decide, by decide⟩ (by decide) 2099 (by decide)
  have c22 : ∀ w, Calls Try.prog 71 #[.int .i64 4611686018427387904, .int .i64 6, .int .i64 4] w fun e w' => e = .returned (.tuple #[.int .i64 6917529027641081856, .int .i64 0]) ∧ Below w.heap.size w w' := Ratio_yes 4611686018427387904 6 4 ⟨by decide, by decide⟩ ⟨by decide, by decide⟩ ⟨by decide, by decide⟩ (by decide) 6917529027641081856 (by decide)
  have c23 : ∀ w, Calls Try.prog 71 #[.int .i64 4611686018427387904, .int .i64 6, .int .i64 2] w fun e w' => e = .returned (.tuple #[.int .i64 9223372036854775807, .int .i64 0]) ∧ Below w.heap.size w w' := Ratio_yes 4611686018427387904 6 2 ⟨by decide, by decide⟩ ⟨by decide, by decide⟩ ⟨by decide, by decide⟩ (by decide) 9223372036854775807 (by decide)
  have c24 : ∀ w, Calls Try.prog 71 #[.int .i64 1, .int .i64 1, .int .i64 0] w fun e w' => e = .returned (.tuple #[.int .i64 0, .int .i64 6]) ∧ Below w.heap.size w w' := Ratio_zero 1 1
  have c25 : ∀ w, Calls Try.prog 80 #[.int .i64 5, .int .i64 7, .int .i64 6] w fun e w' => e = .returned (.tuple #[.int .i64 0, .int .i64 2]) ∧ w = w' := Clamp_no 5 7 6 (by decide)
  have c26 : ∀ w, Calls Try.prog 80 #[.int .i64 5, .int .i64 7, .int .i64 9] w fun e w' => e = .returned (.tuple #[.int .i64 7, .int .i64 0]) ∧ w = w' := Clamp_yes 5 7 9 (by decide)
  have c27 : ∀ w, Calls Try.prog 98 #[.agg #[.int .i64 (-1), .int .u64 18446744073709551615]] w fun e w' => e = .returned (.tuple #[.int .i64 (-1), .int .i64 0]) ∧ Below w.heap.size w w' := by
    intro w
    have h0 : Fx.R64 (Fx.wd (-1) 18446744073709551615) := ⟨by decide, by decide⟩
    have := Narrow_any (-1) 18446744073709551615 ⟨by decide, by decide⟩ ⟨by decide, by decide⟩ w
    rw [(Fx.nw_yes h0).1, (Fx.nw_yes h0).2] at this
    exact this
  have c28 : ∀ w, Calls Try.prog 98 #[.agg #[.int .i64 0, .int .u64 9223372036854775808]] w fun e w' => e = .returned (.tuple #[.int .i64 0, .int .i64 5]) ∧ Below w.heap.size w w' := by
    intro w
    have h0 : ¬ Fx.R64 (Fx.wd 0 9223372036854775808) := by unfold Fx.R64 Fx.wd; omega
    have := Narrow_any 0 9223372036854775808 ⟨by decide, by decide⟩ ⟨by decide, by decide⟩ w
    rw [(Fx.nw_no h0).1, (Fx.nw_no h0).2] at this
    exact this
  have c29 : ∀ w, Calls Try.prog 96 #[.agg #[.int .i64 9223372036854775807, .int .u64 18446744073709551615], .agg #[.int .i64 0, .int .u64 1]] w fun e w' => e = .returned (.tuple #[.agg #[.int .i64 0, .int .u64 0], .int .i64 5]) ∧ Below w.heap.size w w' := by
    have h0 : ¬ Fx.in128 (Fx.wd 9223372036854775807 18446744073709551615 + Fx.wd 0 1) := by unfold Fx.in128 Fx.wd; omega
    exact Plus_w _ _ _ _ 0 0 5 _ ⟨by decide, by decide⟩ ⟨by decide, by decide⟩ ⟨by decide, by decide⟩ ⟨by decide, by decide⟩ rfl (Fx.ov_no h0).2.1 (Fx.ov_no h0).2.2 (Fx.ov_no h0).1
  have c30 : ∀ w, Calls Try.prog 103 #[.agg #[.int .i64 3, .int .i64 4, .int .i64 12]] w fun e w' => e = .returned (.tuple #[.agg #[.int .i64 0, .int .u64 169], .int .i64 0]) ∧ Below w.heap.size w w' := by
    intro w
    have h0 : Fx.in128 ((3 : Int) * 3 + 4 * 4 + 12 * 12) := by unfold Fx.in128; omega
    have := Norm_any 3 4 12 ⟨by decide, by decide⟩ ⟨by decide, by decide⟩ ⟨by decide, by decide⟩ w
    rw [(Fx.ov_yes h0).1, (Fx.ov_yes h0).2.1, (Fx.ov_yes h0).2.2] at this
    exact this
  have c31 : ∀ w, Calls Try.prog 103 #[.agg #[.int .i64 (-9223372036854775808), .int .i64 (-9223372036854775808), .int .i64 0]] w fun e w' => e = .returned (.tuple #[.agg #[.int .i64 0, .int .u64 0], .int .i64 5]) ∧ Below w.heap.size w w' := by
    intro w
    have h0 : ¬ Fx.in128 ((-9223372036854775808 : Int) * (-9223372036854775808) + (-9223372036854775808) * (-9223372036854775808) + 0 * 0) := by unfold Fx.in128; omega
    have := Norm_any (-9223372036854775808) (-9223372036854775808) 0 ⟨by decide, by decide⟩ ⟨by decide, by decide⟩ ⟨by decide, by decide⟩ w
    rw [(Fx.ov_no h0).1, (Fx.ov_no h0).2.1, (Fx.ov_no h0).2.2] at this
    exact this
  have c32 : ∀ w, Calls Try.prog 95 #[.int .i64 (-9223372036854775808), .int .i64 (-9223372036854775808)] w fun e w' => e = .returned (.agg #[.int .i64 4611686018427387904, .int .u64 0]) ∧ Below w.heap.size w w' := fun w => prod_w _ _ _ _ ⟨by decide, by decide⟩ ⟨by decide, by decide⟩ (by decide) (by decide) w
  have c33 : ∀ w, Calls Try.prog 99 #[.agg #[.int .i64 (-1), .int .u64 0], .agg #[.int .i64 0, .int .u64 0]] w fun e w' => e = .returned (.int .i64 (-1)) ∧ Below w.heap.size w w' := fun w => cmp_w _ _ _ _ _ (by decide) w
  have c34 : ∀ w, Calls Try.prog 99 #[.agg #[.int .i64 0, .int .u64 9223372036854775808], .agg #[.int .i64 0, .int .u64 1]] w fun e w' => e = .returned (.int .i64 1) ∧ Below w.heap.size w w' := fun w => cmp_w _ _ _ _ _ (by decide) w
  have C1 := Lib.hid c1
  have C2 := Lib.hid c2
  have C3 := Lib.hid c3
  have C4 := Lib.hid c4
  have C5 := Lib.hid c5
  have C6 := Lib.hid c6
  have C7 := Lib.hid c7
  have C8 := Lib.hid c8
  have C9 := Lib.hid c9
  have C10 := Lib.hid c10
  have C11 := Lib.hid c11
  have C12 := Lib.hid c12
  have C13 := Lib.hid c13
  have C14 := Lib.hid c14
  have C15 := Lib.hid c15
  have C16 := Lib.hid c16
  have C17 := Lib.hid c17
  have C18 := Lib.hid c18
  have C19 := Lib.hid c19
  have C20 := Lib.hid c20
  have C21 := Lib.hid c21
  have C22 := Lib.hid c22
  have C23 := Lib.hid c23
  have C24 := Lib.hid c24
  have C25 := Lib.hid c25
  have C26 := Lib.hid c26
  have C27 := Lib.hid c27
  have C28 := Lib.hid c28
  have C29 := Lib.hid c29
  have C30 := Lib.hid c30
  have C31 := Lib.hid c31
  have C32 := Lib.hid c32
  have C33 := Lib.hid c33
  have C34 := Lib.hid c34
  clear c1 c2 c3 c4 c5 c6 c7 c8 c9 c10 c11 c12 c13 c14 c15 c16 c17 c18 c19 c20 c21 c22 c23 c24 c25 c26 c27 c28 c29 c30 c31 c32 c33 c34
  refine calls_g fun g => ?_
  go_enter Try.func23, Try.ntmps23
  go_wp2_with (with_reducible refine G.any_mark _ ?_; (try generalize Array.size (World.heap (G.w _)) = bk); (try dsimp only [List.set_cons_zero, List.set_cons_succ]); (try clear g); intro g)
  refine (lives1_any _).mono ?_; rintro e w1 ⟨rfl, hb⟩; obtain ⟨g1, rfl⟩ := G.call_ex _ hb; clear hb; (try clear g); revert g1; intro g
  go_wp2_with (first | (with_reducible refine G.any_mark _ ?_; (try generalize Array.size (World.heap (G.w _)) = bk); (try dsimp only [List.set_cons_zero, List.set_cons_succ]); (try clear g); intro g) | (go_at_call 106; go_in) | (go_at_call 107; go_in) | go_back)
  refine (C1.out _).mono ?_; rintro e w1 ⟨rfl, rfl⟩
  go_wp2_with (first | (with_reducible refine G.any_mark _ ?_; (try generalize Array.size (World.heap (G.w _)) = bk); (try dsimp only [List.set_cons_zero, List.set_cons_succ]); (try clear g); intro g) | (go_at_call 106; go_in) | (go_at_call 107; go_in) | go_back)
  refine (C2.out _).mono ?_; rintro e w1 ⟨rfl, rfl⟩
  go_wp2_with (first | (with_reducible refine G.any_mark _ ?_; (try generalize Array.size (World.heap (G.w _)) = bk); (try dsimp only [List.set_cons_zero, List.set_cons_succ]); (try clear g); intro g) | (go_at_call 106; go_in) | (go_at_call 107; go_in) | go_back)
  refine (C3.out _).mono ?_; rintro e w1 ⟨rfl, rfl⟩
  go_wp2_with (first | (with_reducible refine G.any_mark _ ?_; (try generalize Array.size (World.heap (G.w _)) = bk); (try dsimp only [List.set_cons_zero, List.set_cons_succ]); (try clear g); intro g) | (go_at_call 106; go_in) | (go_at_call 107; go_in) | go_back)
  refine (C4.out _).mono ?_; rintro e w1 ⟨rfl, hb⟩; obtain ⟨g1, rfl⟩ := G.call_ex _ hb; clear hb; (try clear g); revert g1; intro g
  go_wp2_with (first | (with_reducible refine G.any_mark _ ?_; (try generalize Array.size (World.heap (G.w _)) = bk); (try dsimp only [List.set_cons_zero, List.set_cons_succ]); (try clear g); intro g) | (go_at_call 106; go_in) | (go_at_call 107; go_in) | go_back)
  refine (C5.out _).mono ?_; rintro e w1 ⟨rfl, hb⟩; obtain ⟨g1, rfl⟩ := G.call_ex _ hb; clear hb; (try clear g); revert g1; intro g
  go_wp2_with (first | (with_reducible refine G.any_mark _ ?_; (try generalize Array.size (World.heap (G.w _)) = bk); (try dsimp only [List.set_cons_zero, List.set_cons_succ]); (try clear g); intro g) | (go_at_call 106; go_in) | (go_at_call 107; go_in) | go_back)
  refine (C6.out _).mono ?_; rintro e w1 ⟨rfl, hb⟩; obtain ⟨g1, rfl⟩ := G.call_ex _ hb; clear hb; (try clear g); revert g1; intro g
  go_wp2_with (first | (with_reducible refine G.any_mark _ ?_; (try generalize Array.size (World.heap (G.w _)) = bk); (try dsimp only [List.set_cons_zero, List.set_cons_succ]); (try clear g); intro g) | (go_at_call 106; go_in) | (go_at_call 107; go_in) | go_back)
  refine (C7.out _).mono ?_; rintro e w1 ⟨rfl, hb⟩; obtain ⟨g1, rfl⟩ := G.call_ex _ hb; clear hb; (try clear g); revert g1; intro g
  go_wp2_with (first | (with_reducible refine G.any_mark _ ?_; (try generalize Array.size (World.heap (G.w _)) = bk); (try dsimp only [List.set_cons_zero, List.set_cons_succ]); (try clear g); intro g) | (go_at_call 106; go_in) | (go_at_call 107; go_in) | go_back)
  refine (C8.out _).mono ?_; rintro e w1 ⟨rfl, hb⟩; obtain ⟨g1, rfl⟩ := G.call_ex _ hb; clear hb; (try clear g); revert g1; intro g
  go_wp2_with (first | (with_reducible refine G.any_mark _ ?_; (try generalize Array.size (World.heap (G.w _)) = bk); (try dsimp only [List.set_cons_zero, List.set_cons_succ]); (try clear g); intro g) | (go_at_call 106; go_in) | (go_at_call 107; go_in) | go_back)
  refine (C9.out _).mono ?_; rintro e w1 ⟨rfl, hb⟩; obtain ⟨g1, rfl⟩ := G.call_ex _ hb; clear hb; (try clear g); revert g1; intro g
  go_wp2_with (first | (with_reducible refine G.any_mark _ ?_; (try generalize Array.size (World.heap (G.w _)) = bk); (try dsimp only [List.set_cons_zero, List.set_cons_succ]); (try clear g); intro g) | (go_at_call 106; go_in) | (go_at_call 107; go_in) | go_back)
  refine (C10.out _).mono ?_; rintro e w1 ⟨rfl, hb⟩; obtain ⟨g1, rfl⟩ := G.call_ex _ hb; clear hb; (try clear g); revert g1; intro g
  go_wp2_with (first | (with_reducible refine G.any_mark _ ?_; (try generalize Array.size (World.heap (G.w _)) = bk); (try dsimp only [List.set_cons_zero, List.set_cons_succ]); (try clear g); intro g) | (go_at_call 106; go_in) | (go_at_call 107; go_in) | go_back)
  refine (C11.out _).mono ?_; rintro e w1 ⟨rfl, hb⟩; obtain ⟨g1, rfl⟩ := G.call_ex _ hb; clear hb; (try clear g); revert g1; intro g
  go_wp2_with (first | (with_reducible refine G.any_mark _ ?_; (try generalize Array.size (World.heap (G.w _)) = bk); (try dsimp only [List.set_cons_zero, List.set_cons_succ]); (try clear g); intro g) | (go_at_call 106; go_in) | (go_at_call 107; go_in) | go_back)
  refine (C12.out _).mono ?_; rintro e w1 ⟨rfl, hb⟩; obtain ⟨g1, rfl⟩ := G.call_ex _ hb; clear hb; (try clear g); revert g1; intro g
  go_wp2_with (first | (with_reducible refine G.any_mark _ ?_; (try generalize Array.size (World.heap (G.w _)) = bk); (try dsimp only [List.set_cons_zero, List.set_cons_succ]); (try clear g); intro g) | (go_at_call 106; go_in) | (go_at_call 107; go_in) | go_back)
  refine (C13.out _).mono ?_; rintro e w1 ⟨rfl, hb⟩; obtain ⟨g1, rfl⟩ := G.call_ex _ hb; clear hb; (try clear g); revert g1; intro g
  go_wp2_with (first | (with_reducible refine G.any_mark _ ?_; (try generalize Array.size (World.heap (G.w _)) = bk); (try dsimp only [List.set_cons_zero, List.set_cons_succ]); (try clear g); intro g) | (go_at_call 106; go_in) | (go_at_call 107; go_in) | go_back)
  refine (C14.out _).mono ?_; rintro e w1 ⟨rfl, hb⟩; obtain ⟨g1, rfl⟩ := G.call_ex _ hb; clear hb; (try clear g); revert g1; intro g
  go_wp2_with (first | (with_reducible refine G.any_mark _ ?_; (try generalize Array.size (World.heap (G.w _)) = bk); (try dsimp only [List.set_cons_zero, List.set_cons_succ]); (try clear g); intro g) | (go_at_call 106; go_in) | (go_at_call 107; go_in) | go_back)
  refine (C15.out _).mono ?_; rintro e w1 ⟨rfl, hb⟩; obtain ⟨g1, rfl⟩ := G.call_ex _ hb; clear hb; (try clear g); revert g1; intro g
  go_wp2_with (first | (with_reducible refine G.any_mark _ ?_; (try generalize Array.size (World.heap (G.w _)) = bk); (try dsimp only [List.set_cons_zero, List.set_cons_succ]); (try clear g); intro g) | (go_at_call 106; go_in) | (go_at_call 107; go_in) | go_back)
  refine (C16.out _).mono ?_; rintro e w1 ⟨rfl, hb⟩; obtain ⟨g1, rfl⟩ := G.call_ex _ hb; clear hb; (try clear g); revert g1; intro g
  go_wp2_with (first | (with_reducible refine G.any_mark _ ?_; (try generalize Array.size (World.heap (G.w _)) = bk); (try dsimp only [List.set_cons_zero, List.set_cons_succ]); (try clear g); intro g) | (go_at_call 106; go_in) | (go_at_call 107; go_in) | go_back)
  refine (C17.out _).mono ?_; rintro e w1 ⟨rfl, hb⟩; obtain ⟨g1, rfl⟩ := G.call_ex _ hb; clear hb; (try clear g); revert g1; intro g
  go_wp2_with (first | (with_reducible refine G.any_mark _ ?_; (try generalize Array.size (World.heap (G.w _)) = bk); (try dsimp only [List.set_cons_zero, List.set_cons_succ]); (try clear g); intro g) | (go_at_call 106; go_in) | (go_at_call 107; go_in) | go_back)
  refine (C18.out _).mono ?_; rintro e w1 ⟨rfl, hb⟩; obtain ⟨g1, rfl⟩ := G.call_ex _ hb; clear hb; (try clear g); revert g1; intro g
  go_wp2_with (first | (with_reducible refine G.any_mark _ ?_; (try generalize Array.size (World.heap (G.w _)) = bk); (try dsimp only [List.set_cons_zero, List.set_cons_succ]); (try clear g); intro g) | (go_at_call 106; go_in) | (go_at_call 107; go_in) | go_back)
  refine (C19.out _).mono ?_; rintro e w1 ⟨rfl, hb⟩; obtain ⟨g1, rfl⟩ := G.call_ex _ hb; clear hb; (try clear g); revert g1; intro g
  go_wp2_with (first | (with_reducible refine G.any_mark _ ?_; (try generalize Array.size (World.heap (G.w _)) = bk); (try dsimp only [List.set_cons_zero, List.set_cons_succ]); (try clear g); intro g) | (go_at_call 106; go_in) | (go_at_call 107; go_in) | go_back)
  refine (C20.out _).mono ?_; rintro e w1 ⟨rfl, hb⟩; obtain ⟨g1, rfl⟩ := G.call_ex _ hb; clear hb; (try clear g); revert g1; intro g
  go_wp2_with (first | (with_reducible refine G.any_mark _ ?_; (try generalize Array.size (World.heap (G.w _)) = bk); (try dsimp only [List.set_cons_zero, List.set_cons_succ]); (try clear g); intro g) | (go_at_call 106; go_in) | (go_at_call 107; go_in) | go_back)
  refine (C21.out _).mono ?_; rintro e w1 ⟨rfl, hb⟩; obtain ⟨g1, rfl⟩ := G.call_ex _ hb; clear hb; (try clear g); revert g1; intro g
  go_wp2_with (first | (with_reducible refine G.any_mark _ ?_; (try generalize Array.size (World.heap (G.w _)) = bk); (try dsimp only [List.set_cons_zero, List.set_cons_succ]); (try clear g); intro g) | (go_at_call 106; go_in) | (go_at_call 107; go_in) | go_back)
  refine (C22.out _).mono ?_; rintro e w1 ⟨rfl, hb⟩; obtain ⟨g1, rfl⟩ := G.call_ex _ hb; clear hb; (try clear g); revert g1; intro g
  go_wp2_with (first | (with_reducible refine G.any_mark _ ?_; (try generalize Array.size (World.heap (G.w _)) = bk); (try dsimp only [List.set_cons_zero, List.set_cons_succ]); (try clear g); intro g) | (go_at_call 106; go_in) | (go_at_call 107; go_in) | go_back)
  refine (C23.out _).mono ?_; rintro e w1 ⟨rfl, hb⟩; obtain ⟨g1, rfl⟩ := G.call_ex _ hb; clear hb; (try clear g); revert g1; intro g
  go_wp2_with (first | (with_reducible refine G.any_mark _ ?_; (try generalize Array.size (World.heap (G.w _)) = bk); (try dsimp only [List.set_cons_zero, List.set_cons_succ]); (try clear g); intro g) | (go_at_call 106; go_in) | (go_at_call 107; go_in) | go_back)
  refine (C24.out _).mono ?_; rintro e w1 ⟨rfl, hb⟩; obtain ⟨g1, rfl⟩ := G.call_ex _ hb; clear hb; (try clear g); revert g1; intro g
  go_wp2_with (first | (with_reducible refine G.any_mark _ ?_; (try generalize Array.size (World.heap (G.w _)) = bk); (try dsimp only [List.set_cons_zero, List.set_cons_succ]); (try clear g); intro g) | (go_at_call 106; go_in) | (go_at_call 107; go_in) | go_back)
  refine (C25.out _).mono ?_; rintro e w1 ⟨rfl, rfl⟩
  go_wp2_with (first | (with_reducible refine G.any_mark _ ?_; (try generalize Array.size (World.heap (G.w _)) = bk); (try dsimp only [List.set_cons_zero, List.set_cons_succ]); (try clear g); intro g) | (go_at_call 106; go_in) | (go_at_call 107; go_in) | go_back)
  refine (C26.out _).mono ?_; rintro e w1 ⟨rfl, rfl⟩
  go_wp2_with (first | (with_reducible refine G.any_mark _ ?_; (try generalize Array.size (World.heap (G.w _)) = bk); (try dsimp only [List.set_cons_zero, List.set_cons_succ]); (try clear g); intro g) | (go_at_call 106; go_in) | (go_at_call 107; go_in) | go_back)
  refine (C27.out _).mono ?_; rintro e w1 ⟨rfl, hb⟩; obtain ⟨g1, rfl⟩ := G.call_ex _ hb; clear hb; (try clear g); revert g1; intro g
  go_wp2_with (first | (with_reducible refine G.any_mark _ ?_; (try generalize Array.size (World.heap (G.w _)) = bk); (try dsimp only [List.set_cons_zero, List.set_cons_succ]); (try clear g); intro g) | (go_at_call 106; go_in) | (go_at_call 107; go_in) | go_back)
  refine (C28.out _).mono ?_; rintro e w1 ⟨rfl, hb⟩; obtain ⟨g1, rfl⟩ := G.call_ex _ hb; clear hb; (try clear g); revert g1; intro g
  go_wp2_with (first | (with_reducible refine G.any_mark _ ?_; (try generalize Array.size (World.heap (G.w _)) = bk); (try dsimp only [List.set_cons_zero, List.set_cons_succ]); (try clear g); intro g) | (go_at_call 106; go_in) | (go_at_call 107; go_in) | go_back)
  refine (C29.out _).mono ?_; rintro e w1 ⟨rfl, hb⟩; obtain ⟨g1, rfl⟩ := G.call_ex _ hb; clear hb; (try clear g); revert g1; intro g
  go_wp2_with (first | (with_reducible refine G.any_mark _ ?_; (try generalize Array.size (World.heap (G.w _)) = bk); (try dsimp only [List.set_cons_zero, List.set_cons_succ]); (try clear g); intro g) | (go_at_call 106; go_in) | (go_at_call 107; go_in) | go_back)
  refine (C30.out _).mono ?_; rintro e w1 ⟨rfl, hb⟩; obtain ⟨g1, rfl⟩ := G.call_ex _ hb; clear hb; (try clear g); revert g1; intro g
  go_wp2_with (first | (with_reducible refine G.any_mark _ ?_; (try generalize Array.size (World.heap (G.w _)) = bk); (try dsimp only [List.set_cons_zero, List.set_cons_succ]); (try clear g); intro g) | (go_at_call 106; go_in) | (go_at_call 107; go_in) | go_back)
  refine (C31.out _).mono ?_; rintro e w1 ⟨rfl, hb⟩; obtain ⟨g1, rfl⟩ := G.call_ex _ hb; clear hb; (try clear g); revert g1; intro g
  go_wp2_with (first | (with_reducible refine G.any_mark _ ?_; (try generalize Array.size (World.heap (G.w _)) = bk); (try dsimp only [List.set_cons_zero, List.set_cons_succ]); (try clear g); intro g) | (go_at_call 106; go_in) | (go_at_call 107; go_in) | go_back)
  refine (C32.out _).mono ?_; rintro e w1 ⟨rfl, hb⟩; obtain ⟨g1, rfl⟩ := G.call_ex _ hb; clear hb; (try clear g); revert g1; intro g
  go_wp2_with (first | (with_reducible refine G.any_mark _ ?_; (try generalize Array.size (World.heap (G.w _)) = bk); (try dsimp only [List.set_cons_zero, List.set_cons_succ]); (try clear g); intro g) | (go_at_call 106; go_in) | (go_at_call 107; go_in) | go_back)
  refine (C33.out _).mono ?_; rintro e w1 ⟨rfl, hb⟩; obtain ⟨g1, rfl⟩ := G.call_ex _ hb; clear hb; (try clear g); revert g1; intro g
  go_wp2_with (first | (with_reducible refine G.any_mark _ ?_; (try generalize Array.size (World.heap (G.w _)) = bk); (try dsimp only [List.set_cons_zero, List.set_cons_succ]); (try clear g); intro g) | (go_at_call 106; go_in) | (go_at_call 107; go_in) | go_back)
  refine (C34.out _).mono ?_; rintro e w1 ⟨rfl, hb⟩; obtain ⟨g1, rfl⟩ := G.call_ex _ hb; clear hb; (try clear g); revert g1; intro g
  go_wp2_with (first | (with_reducible refine G.any_mark _ ?_; (try generalize Array.size (World.heap (G.w _)) = bk); (try dsimp only [List.set_cons_zero, List.set_cons_succ]); (try clear g); intro g) | (go_at_call 106; go_in) | (go_at_call 107; go_in) | go_back)
  go_ret
  exact ⟨rfl, G.below _⟩
end Go.Proofs.Ytgehbebjgmeccaa
