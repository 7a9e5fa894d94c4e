/- Contracts of functions of the program and of its reference, out of walks. Their conditions stand ahead of each. -/
import Derived.Test.YtgehbebjgmeccaaW58
set_option linter.unusedVariables false
set_option linter.unusedSimpArgs false
namespace Go.Proofs.Ytgehbebjgmeccaa
open Go.RowKit GW
theorem rAdd_any (a b : Int) (ha : Fx.R64 a) (hb : Fx.R64 b) (w : World) :
    Calls Try.prog 83 #[.int .i64 a, .int .i64 b] w fun e w' => e = .returned (.int .i64 (sat (a + b))) ∧ w = w' := by
  unfold Fx.R64 at ha hb
  obtain ⟨a0, a1⟩ := ha
  obtain ⟨b0, b1⟩ := hb
  by_cases t1 : 0 < b
  · have w1 : IntKind.i64.wrap (9223372036854775807 - b) = 9223372036854775807 - b := IntWalk.i64_in _ (by omega)
    have t4 : ¬ b < 0 := by omega
    by_cases t2 : 9223372036854775807 - b < a
    · rw [sat_hi (by omega)]
      go_enter Try.func83, Try.ntmps83
      go_wp2_with fail
      go_ret
      exact ⟨rfl, rfl⟩
    · rw [sat_in ⟨by omega, by omega⟩]
      have h3 : -9223372036854775808 ≤ a + b := by omega
      have h4 : a + b ≤ 9223372036854775807 := by omega
      go_enter Try.func83, Try.ntmps83
      go_wp2_with fail
      go_ret
      exact ⟨rfl, rfl⟩
  · by_cases t4 : b < 0
    · have w1 : IntKind.i64.wrap (-9223372036854775808 - b) = -9223372036854775808 - b := IntWalk.i64_in _ (by omega)
      by_cases t2 : a < -9223372036854775808 - b
      · rw [sat_lo (by omega)]
        go_enter Try.func83, Try.ntmps83
        go_wp2_with fail
        go_ret
        exact ⟨rfl, rfl⟩
      · rw [sat_in ⟨by omega, by omega⟩]
        have h3 : -9223372036854775808 ≤ a + b := by omega
        have h4 : a + b ≤ 9223372036854775807 := by omega
        go_enter Try.func83, Try.ntmps83
        go_wp2_with fail
        go_ret
        exact ⟨rfl, rfl⟩
    · obtain rfl : b = 0 := by omega
      rw [sat_in ⟨by omega, by omega⟩]
      have h3 : -9223372036854775808 ≤ a + 0 := by omega
      have h4 : a + 0 ≤ 9223372036854775807 := by omega
      go_enter Try.func83, Try.ntmps83
      go_wp2_with fail
      go_ret
      exact ⟨by simp, rfl⟩
theorem Sub_any (a b : Int) (ha : Fx.R64 a) (hb : Fx.R64 b) (w : World) :
    Calls Try.prog 84 #[.int .i64 a, .int .i64 b] w fun e w' => e = .returned (.int .i64 (sat (a - b))) ∧ w = w' := by
  have HA := Lib.hid ha
  unfold Fx.R64 at ha hb
  obtain ⟨a0, a1⟩ := ha
  obtain ⟨b0, b1⟩ := hb
  by_cases t1 : b = -9223372036854775808
  · subst t1
    by_cases t2 : 0 ≤ a
    · rw [sat_hi (by omega)]
      go_enter Try.func84, Try.ntmps84
      go_wp2_with fail
      go_ret
      exact ⟨rfl, rfl⟩
    · rw [sat_in ⟨by omega, by omega⟩]
      have h3 : IntKind.i64.wrap (a - -9223372036854775808) = a - -9223372036854775808 := IntWalk.i64_in _ (by omega)
      have h4 : IntKind.i64.wrap (a + 9223372036854775808) = a + 9223372036854775808 := IntWalk.i64_in _ (by omega)
      have h5 : -9223372036854775808 ≤ a + 9223372036854775808 := by omega
      have h6 : a + 9223372036854775808 ≤ 9223372036854775807 := by omega
      go_enter Try.func84, Try.ntmps84
      go_wp2_with fail
      go_ret
      exact ⟨by simp, rfl⟩
  · have t1' : (b == -9223372036854775808) = false := by simpa using t1
    have CA := Lib.hid (fun w => Add_any a (-b) HA.out ⟨by omega, by omega⟩ w)
    have n1 : -9223372036854775808 ≤ -b := by omega
    have n2 : -b ≤ 9223372036854775807 := by omega
    rw [show a - b = a + -b by omega]
    go_enter Try.func84, Try.ntmps84
    go_wp2_with fail
    refine (CA.out _).mono ?_
    rintro e w1 ⟨rfl, rfl⟩
    go_wp2_with fail
    go_ret
    exact ⟨rfl, rfl⟩
theorem rSub_any (a b : Int) (ha : Fx.R64 a) (hb : Fx.R64 b) (w : World) :
    Calls Try.prog 85 #[.int .i64 a, .int .i64 b] w fun e w' => e = .returned (.int .i64 (sat (a - b))) ∧ w = w' := by
  unfold Fx.R64 at ha hb
  obtain ⟨a0, a1⟩ := ha
  obtain ⟨b0, b1⟩ := hb
  by_cases t1 : b < 0
  · have w1 : IntKind.i64.wrap (9223372036854775807 + b) = 9223372036854775807 + b := IntWalk.i64_in _ (by omega)
    have t4 : ¬ 0 < b := by omega
    by_cases t2 : 9223372036854775807 + b < a
    · rw [sat_hi (by omega)]
      go_enter Try.func85, Try.ntmps85
      go_wp2_with fail
      go_ret
      exact ⟨rfl, rfl⟩
    · rw [sat_in ⟨by omega, by omega⟩]
      have h3 : -9223372036854775808 ≤ a - b := by omega
      have h4 : a - b ≤ 9223372036854775807 := by omega
      go_enter Try.func85, Try.ntmps85
      go_wp2_with fail
      go_ret
      exact ⟨rfl, rfl⟩
  · by_cases t4 : 0 < b
    · have w1 : IntKind.i64.wrap (-9223372036854775808 + b) = -9223372036854775808 + b := IntWalk.i64_in _ (by omega)
      by_cases t2 : a < -9223372036854775808 + b
      · rw [sat_lo (by omega)]
        go_enter Try.func85, Try.ntmps85
        go_wp2_with fail
        go_ret
        exact ⟨rfl, rfl⟩
      · rw [sat_in ⟨by omega, by omega⟩]
        have h3 : -9223372036854775808 ≤ a - b := by omega
        have h4 : a - b ≤ 9223372036854775807 := by omega
        go_enter Try.func85, Try.ntmps85
        go_wp2_with fail
        go_ret
        exact ⟨rfl, rfl⟩
    · obtain rfl : b = 0 := by omega
      rw [sat_in ⟨by omega, by omega⟩]
      have h3 : -9223372036854775808 ≤ a - 0 := by omega
      have h4 : a - 0 ≤ 9223372036854775807 := by omega
      go_enter Try.func85, Try.ntmps85
      go_wp2_with fail
      go_ret
      exact ⟨by simp, rfl⟩
theorem Neg_any (a : Int) (ha : Fx.R64 a) (w : World) :
    Calls Try.prog 86 #[.int .i64 a] w fun e w' => e = .returned (.int .i64 (sat (0 - a))) ∧ w = w' := by
  have CA := Lib.hid (fun w => Sub_any 0 a ⟨by omega, by omega⟩ ha w)
  clear ha
  go_enter Try.func86, Try.ntmps86
  go_wp2_with fail
  refine (CA.out _).mono ?_
  rintro e w1 ⟨rfl, rfl⟩
  go_wp2_with fail
  go_ret
  exact ⟨by rw [show (0 : Int) - a = -a by omega]; rfl, rfl⟩
theorem rNeg_any (a : Int) (ha : Fx.R64 a) (w : World) :
    Calls Try.prog 87 #[.int .i64 a] w fun e w' => e = .returned (.int .i64 (sat (0 - a))) ∧ w = w' := by
  have CA := Lib.hid (fun w => rSub_any 0 a ⟨by omega, by omega⟩ ha w)
  clear ha
  go_enter Try.func87, Try.ntmps87
  go_wp2_with fail
  refine (CA.out _).mono ?_
  rintro e w1 ⟨rfl, rfl⟩
  go_wp2_with fail
  go_ret
  exact ⟨by rw [show (0 : Int) - a = -a by omega]; rfl, rfl⟩
end Go.Proofs.Ytgehbebjgmeccaa
