/- Contracts of functions of the program and of its reference, out of walks. Their conditions stand ahead of each. -/
import Derived.Test.YtgehbebjgmeccaaW26
set_option linter.unusedVariables false
set_option linter.unusedSimpArgs false
namespace Go.Proofs.Ytgehbebjgmeccaa
open Go.RowKit
def sg (a b : Int) : Int := if a < b then -1 else if b < a then 1 else 0
theorem nan1 (a : Int) (w : World) : Calls Try.prog 181 #[.int .i64 a] w fun e w' => e = .returned (.bool false) ∧ w = w' := by
  go_enter Try.func181, Try.ntmps181
  go_wp2_with fail
  go_ret
  exact ⟨by simp, rfl⟩
theorem nan2 (a : Int) (w : World) : Calls Try.prog 182 #[.int .u64 a] w fun e w' => e = .returned (.bool false) ∧ w = w' := by
  go_enter Try.func182, Try.ntmps182
  go_wp2_with fail
  go_ret
  exact ⟨by simp, rfl⟩
theorem cmpi_any (a b : Int) (w : World) : Calls Try.prog 158 #[.int .i64 a, .int .i64 b] w fun e w' => e = .returned (.int .i64 (sg a b)) ∧ w = w' := by
  go_enter Try.func158, Try.ntmps158
  go_wp2_with (go_at_call 181; refine (nan1 _ _).mono ?_; rintro e w1 ⟨rfl, rfl⟩)
  all_goals go_ret
  · rename_i h; exact ⟨ret_int (by unfold sg; rw [if_pos h]), rfl⟩
  · rename_i h h'; exact ⟨ret_int (by unfold sg; rw [if_neg (by omega), if_pos h']), rfl⟩
  · rename_i h h'; exact ⟨ret_int (by unfold sg; rw [if_neg (by omega), if_neg (by omega)]), rfl⟩
theorem cmpu_any (a b : Int) (w : World) : Calls Try.prog 159 #[.int .u64 a, .int .u64 b] w fun e w' => e = .returned (.int .i64 (sg a b)) ∧ w = w' := by
  go_enter Try.func159, Try.ntmps159
  go_wp2_with (go_at_call 182; refine (nan2 _ _).mono ?_; rintro e w1 ⟨rfl, rfl⟩)
  all_goals go_ret
  · rename_i h; exact ⟨ret_int (by unfold sg; rw [if_pos h]), rfl⟩
  · rename_i h h'; exact ⟨ret_int (by unfold sg; rw [if_neg (by omega), if_pos h']), rfl⟩
  · rename_i h h'; exact ⟨ret_int (by unfold sg; rw [if_neg (by omega), if_neg (by omega)]), rfl⟩
def orV (x y : Int) : Int := if x = 0 then y else x
theorem Or_any (b : Nat) (x y : Int) (w : World) (c0 : w.cell? ⟨b, 0, none⟩ = some (.int .i64 x)) (c1 : w.cell? ⟨b, 1, none⟩ = some (.int .i64 y)) :
    Calls Try.prog 157 #[.slice (some ⟨b, 0, none⟩) 2 2] w fun e w' => e = .returned (.int .i64 (orV x y)) ∧ w = w' := by
  go_enter Try.func157, Try.ntmps157
  go_wp2_with fail
  go_loop [8] (fun u => ∃ j : Nat, u = .int .i64 j ∧ (j = 0 ∨ (j = 1 ∧ x = 0) ∨ (j = 2 ∧ x = 0 ∧ y = 0))) (fun u => (2 - intOf u).toNat)
  case atStart => exact ⟨0, by go_num, Or.inl rfl⟩
  case round =>
    obtain ⟨j, rfl, hj⟩ := hrel
    rcases hj with rfl | ⟨rfl, hx⟩ | ⟨rfl, hx, hy⟩
    · by_cases h : x = 0
      · have h0 : (x == 0) = true := by simpa using h
        have HX := Lib.hid h
        clear h
        go_wp2_with fail
        exact ⟨⟨1, by go_num, Or.inr (Or.inl ⟨rfl, HX.out⟩)⟩, by simp [intOf]⟩
      · have h0 : (x == 0) = false := by simpa using h
        go_wp2_with fail
        go_ret
        exact ⟨ret_int (by unfold orV; rw [if_neg h]), rfl⟩
    · by_cases h : y = 0
      · have h0 : (y == 0) = true := by simpa using h
        have HX := Lib.hid hx
        have HY := Lib.hid h
        clear h hx
        go_wp2_with fail
        exact ⟨⟨2, by go_num, Or.inr (Or.inr ⟨rfl, HX.out, HY.out⟩)⟩, by simp [intOf]⟩
      · have h0 : (y == 0) = false := by simpa using h
        have HX := Lib.hid hx
        clear hx
        go_wp2_with fail
        go_ret
        exact ⟨ret_int (by unfold orV; rw [if_pos HX.out]), rfl⟩
    · have HX := Lib.hid hx
      have HY := Lib.hid hy
      clear hx hy
      go_wp2_with fail
      go_ret
      exact ⟨ret_int (by unfold orV; rw [if_pos HX.out, HY.out]), rfl⟩
theorem Cmp_any (a b c d : Int) (w : World) : Calls Try.prog 99 #[.agg #[.int .i64 a, .int .u64 b], .agg #[.int .i64 c, .int .u64 d]] w fun e w' => e = .returned (.int .i64 (orV (sg a c) (sg b d))) ∧ Below w.heap.size w w' := by
  go_enter Try.func99, Try.ntmps99
  go_wp2_with fail
  go_region_held3 (fun w' => w'.cell? ⟨w.heap.size, 0, none⟩ = some (.int .i64 a) ∧ w'.cell? ⟨w.heap.size, 1, none⟩ = some (.int .u64 b) ∧ w'.cell? ⟨w.heap.size + 1, 0, none⟩ = some (.int .i64 c) ∧ w'.cell? ⟨w.heap.size + 1, 1, none⟩ = some (.int .u64 d)) (first | exact ⟨by assumption, by assumption, by assumption, by assumption⟩ | (simp [go_sem, *]; done) | (trace_state; fail))
    (first
      | (go_at_call 158; refine (cmpi_any _ _ _).mono ?_; rintro e w1 ⟨rfl, rfl⟩)
      | (go_at_call 159; refine (cmpu_any _ _ _).mono ?_; rintro e w1 ⟨rfl, rfl⟩)
      | (go_at_call 157; refine (Or_any (w.heap.size + 1 + 1) (sg a c) (sg b d) _ (by simp [go_sem]) (by simp [go_sem])).mono ?_; rintro e w1 ⟨rfl, rfl⟩))
  go_wp2_with fail
  all_goals go_ret
  all_goals exact ⟨rfl, (((Below.refl _ _).alloc (Nat.le_refl _) _).alloc (by simp) _).alloc (by simp; omega) _ |>.drew⟩
end Go.Proofs.Ytgehbebjgmeccaa
