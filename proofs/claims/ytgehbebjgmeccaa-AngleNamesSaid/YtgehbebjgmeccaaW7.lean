/- Contracts of functions of the program and of its reference, out of walks. Their conditions stand ahead of each. -/
import Derived.Test.YtgehbebjgmeccaaW6
set_option linter.unusedVariables false
set_option linter.unusedSimpArgs false
namespace Go.Proofs.Ytgehbebjgmeccaa
open Go.RowKit
theorem Sector_no (x y : Int) (h : ¬ (-70368744177664 ≤ x ∧ x ≤ 70368744177664 ∧ -70368744177664 ≤ y ∧ y ≤ 70368744177664)) (w : World) :
    Calls Try.prog 58 #[.agg #[.int .i64 x, .int .i64 y]] w fun e w' => e = .returned (.tuple #[.int .i64 0, .int .i64 2]) ∧ Below w.heap.size w w' := by
  have H := Lib.hid h
  clear h
  go_enter Try.func58, Try.ntmps58
  go_wp2_with (go_at_call 137; refine (small_no x y H.out _).mono ?_; rintro e w1 ⟨rfl, hb1⟩)
  go_ret2
  exact ⟨rfl, ((Below.refl _ _).alloc (Nat.le_refl _) _).trans (hb1.mono (by simp))⟩
theorem Sector_yes (x y : Int) (hx : -70368744177664 ≤ x ∧ x ≤ 70368744177664) (hy : -70368744177664 ≤ y ∧ y ≤ 70368744177664) (w : World) :
    Calls Try.prog 58 #[.agg #[.int .i64 x, .int .i64 y]] w fun e w' => e = .returned (.tuple #[.int .i64 (Ang.secF x y), .int .i64 0]) ∧ Below w.heap.size w w' := by
  by_cases hx0 : x = 0
  · subst hx0
    by_cases hy0 : y = 0
    · subst hy0
      go_enter Try.func58, Try.ntmps58
      go_wp2_with (go_at_call 137; refine (small_yes _ _ hx hy _).mono ?_; rintro e w1 ⟨rfl, hb1⟩; obtain ⟨g1, f1, z1⟩ := step2 (b := w.heap.size) hb1 (by simp))
      go_ret2
      exact ⟨by rw [Ang.secF_zero]; rfl, ((Below.refl _ _).alloc (Nat.le_refl _) _).trans (hb1.mono (by simp))⟩
    · have h0 : (y == 0) = false := by simpa using hy0
      have hne : (0 : Int) ≠ 0 ∨ y ≠ 0 := Or.inr hy0
      have HN := Lib.hid hne
      clear hne hy0
      go_enter Try.func58, Try.ntmps58
      go_wp2_with (first | (go_at_call 137; refine (small_yes _ _ hx hy _).mono ?_; rintro e w1 ⟨rfl, hb1⟩; obtain ⟨g1, f1, z1⟩ := step2 (b := w.heap.size) hb1 (by simp)) | (go_at_call 138; refine (sector_any _ _ HN.out hx hy _).mono ?_; rintro e w2 ⟨rfl, hb2⟩))
      go_ret2
      exact ⟨rfl, (((Below.refl _ _).alloc (Nat.le_refl _) _).trans (hb1.mono (by simp))).trans (hb2.mono (by omega))⟩
  · have h0 : (x == 0) = false := by simpa using hx0
    have hne : x ≠ 0 ∨ y ≠ 0 := Or.inl hx0
    have HN := Lib.hid hne
    clear hne hx0
    go_enter Try.func58, Try.ntmps58
    go_wp2_with (first | (go_at_call 137; refine (small_yes _ _ hx hy _).mono ?_; rintro e w1 ⟨rfl, hb1⟩; obtain ⟨g1, f1, z1⟩ := step2 (b := w.heap.size) hb1 (by simp)) | (go_at_call 138; refine (sector_any _ _ HN.out hx hy _).mono ?_; rintro e w2 ⟨rfl, hb2⟩))
    go_ret2
    exact ⟨rfl, (((Below.refl _ _).alloc (Nat.le_refl _) _).trans (hb1.mono (by simp))).trans (hb2.mono (by omega))⟩
theorem Fine_no (x y : Int) (h : ¬ (-70368744177664 ≤ x ∧ x ≤ 70368744177664 ∧ -70368744177664 ≤ y ∧ y ≤ 70368744177664)) (w : World) :
    Calls Try.prog 50 #[.agg #[.int .i64 x, .int .i64 y]] w fun e w' => e = .returned (.tuple #[.int .i64 0, .int .i64 2]) ∧ Below w.heap.size w w' := by
  have H := Lib.hid h
  clear h
  go_enter Try.func50, Try.ntmps50
  go_wp2_with (go_at_call 58; refine (Sector_no x y H.out _).mono ?_; rintro e w1 ⟨rfl, hb1⟩)
  go_ret2
  exact ⟨rfl, ((Below.refl _ _).alloc (Nat.le_refl _) _).trans (hb1.mono (by simp))⟩
theorem Fine_zero (w : World) :
    Calls Try.prog 50 #[.agg #[.int .i64 0, .int .i64 0]] w fun e w' => e = .returned (.tuple #[.int .i64 0, .int .i64 0]) ∧ Below w.heap.size w w' := by
  go_enter Try.func50, Try.ntmps50
  go_wp2_with (go_at_call 58; refine (Sector_yes 0 0 (by omega) (by omega) _).mono ?_; rintro e w1 ⟨rfl, hb1⟩; obtain ⟨g1, f1, z1⟩ := step2 (b := w.heap.size) hb1 (by simp))
  go_ret2
  exact ⟨rfl, ((Below.refl _ _).alloc (Nat.le_refl _) _).trans (hb1.mono (by simp))⟩
end Go.Proofs.Ytgehbebjgmeccaa
