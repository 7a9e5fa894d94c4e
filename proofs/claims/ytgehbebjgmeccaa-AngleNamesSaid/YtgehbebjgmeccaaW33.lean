/- Contracts of functions of the program and of its reference, out of walks. Their conditions stand ahead of each. -/
import Derived.Test.YtgehbebjgmeccaaW30
import Derived.Test.YtgehbebjgmeccaaW32
set_option linter.unusedVariables false
set_option linter.unusedSimpArgs false
namespace Go.Proofs.Ytgehbebjgmeccaa
open Go.RowKit
theorem rCmp_any (a b c d : Int) (w : World) :
    Calls Try.prog 105 #[.agg #[.int .i64 a, .int .u64 b], .agg #[.int .i64 c, .int .u64 d]] w fun e w' => e = .returned (.int .i64 (orV (sg a c) (sg b d))) ∧ Below w.heap.size w w' := by
  rcases Int.lt_trichotomy a c with h | h | h
  · have hR : orV (sg a c) (sg b d) = -1 := by unfold orV sg; repeat' split <;> omega
    rw [hR]; clear hR
    go_enter Try.func105, Try.ntmps105
    go_wp2_with fail
    all_goals go_ret
    all_goals exact ⟨rfl, ((Below.refl _ _).alloc (Nat.le_refl _) _).alloc (by simp) _⟩
  · subst h
    have hs : sg a a = 0 := by unfold sg; repeat' split <;> omega
    rw [hs]; clear hs
    rcases Int.lt_trichotomy b d with g | g | g
    · have hR : orV 0 (sg b d) = -1 := by unfold orV sg; repeat' split <;> omega
      rw [hR]; clear hR
      go_enter Try.func105, Try.ntmps105
      go_wp2_with fail
      all_goals go_ret
      all_goals exact ⟨rfl, ((Below.refl _ _).alloc (Nat.le_refl _) _).alloc (by simp) _⟩
    · subst g
      have hR : orV 0 (sg b b) = 0 := by unfold orV sg; repeat' split <;> omega
      rw [hR]; clear hR
      go_enter Try.func105, Try.ntmps105
      go_wp2_with fail
      all_goals go_ret
      all_goals exact ⟨rfl, ((Below.refl _ _).alloc (Nat.le_refl _) _).alloc (by simp) _⟩
    · have hR : orV 0 (sg b d) = 1 := by unfold orV sg; repeat' split <;> omega
      have e1 : (b == d) = false := by simp; omega
      rw [hR]; clear hR
      go_enter Try.func105, Try.ntmps105
      go_wp2_with fail
      all_goals go_ret
      all_goals exact ⟨rfl, ((Below.refl _ _).alloc (Nat.le_refl _) _).alloc (by simp) _⟩
  · have hR : orV (sg a c) (sg b d) = 1 := by unfold orV sg; repeat' split <;> omega
    have e1 : (a == c) = false := by simp; omega
    rw [hR]; clear hR
    go_enter Try.func105, Try.ntmps105
    go_wp2_with fail
    all_goals go_ret
    all_goals exact ⟨rfl, ((Below.refl _ _).alloc (Nat.le_refl _) _).alloc (by simp) _⟩
theorem RootWide_neg (hi lo : Int) (h : hi < 0) (w : World) :
    Calls Try.prog 54 #[.agg #[.int .i64 hi, .int .u64 lo]] w fun e w' => e = .returned (.tuple #[.int .i64 0, .int .i64 2]) ∧ Below w.heap.size w w' := by
  go_enter Try.func54, Try.ntmps54
  go_wp2_with fail
  all_goals go_ret2
  all_goals exact ⟨rfl, (Below.refl _ _).alloc (Nat.le_refl _) _⟩
theorem RootWide_over (hi lo : Int) (h : 4611686018427387904 ≤ hi) (w : World) :
    Calls Try.prog 54 #[.agg #[.int .i64 hi, .int .u64 lo]] w fun e w' => e = .returned (.tuple #[.int .i64 0, .int .i64 5]) ∧ Below w.heap.size w w' := by
  go_enter Try.func54, Try.ntmps54
  go_wp2_with fail
  all_goals go_ret2
  all_goals exact ⟨rfl, (Below.refl _ _).alloc (Nat.le_refl _) _⟩
theorem Root_neg (n : Int) (h : n < 0) (w : World) :
    Calls Try.prog 52 #[.int .i64 n] w fun e w' => e = .returned (.tuple #[.int .i64 0, .int .i64 2]) ∧ Below w.heap.size w w' := by
  go_enter Try.func52, Try.ntmps52
  go_wp2_with fail
  all_goals go_ret2
  all_goals exact ⟨rfl, Below.refl _ _⟩
theorem rRootWide_neg (hi lo : Int) (h : hi < 0) (w : World) :
    Calls Try.prog 55 #[.agg #[.int .i64 hi, .int .u64 lo]] w fun e w' => e = .returned (.tuple #[.int .i64 0, .int .i64 2]) ∧ Below w.heap.size w w' := by
  go_enter Try.func55, Try.ntmps55
  go_wp2_with fail
  all_goals go_ret2
  all_goals exact ⟨rfl, (Below.refl _ _).alloc (Nat.le_refl _) _⟩
theorem rRootWide_over (hi lo : Int) (h : 4611686018427387904 ≤ hi) (w : World) :
    Calls Try.prog 55 #[.agg #[.int .i64 hi, .int .u64 lo]] w fun e w' => e = .returned (.tuple #[.int .i64 0, .int .i64 5]) ∧ Below w.heap.size w w' := by
  go_enter Try.func55, Try.ntmps55
  go_wp2_with fail
  all_goals go_ret2
  all_goals exact ⟨rfl, (Below.refl _ _).alloc (Nat.le_refl _) _⟩
theorem rRoot_neg (n : Int) (h : n < 0) (w : World) :
    Calls Try.prog 53 #[.int .i64 n] w fun e w' => e = .returned (.tuple #[.int .i64 0, .int .i64 2]) ∧ Below w.heap.size w w' := by
  go_enter Try.func53, Try.ntmps53
  go_wp2_with fail
  all_goals go_ret2
  all_goals exact ⟨rfl, Below.refl _ _⟩
end Go.Proofs.Ytgehbebjgmeccaa
