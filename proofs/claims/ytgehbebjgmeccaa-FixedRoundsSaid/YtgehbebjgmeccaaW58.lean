/- Contracts of functions of the program and of its reference, out of walks. Their conditions stand ahead of each. -/
import Derived.Test.YtgehbebjgmeccaaW57
set_option linter.unusedVariables false
set_option linter.unusedSimpArgs false
namespace Go.Proofs.Ytgehbebjgmeccaa
open Go.RowKit GW
/-- saturated -/
def sat (x : Int) : Int := if x < -9223372036854775808 then -9223372036854775808 else if 9223372036854775807 < x then 9223372036854775807 else x
theorem sat_lo {x : Int} (h : x < -9223372036854775808) : sat x = -9223372036854775808 := by unfold sat; rw [if_pos h]
theorem sat_hi {x : Int} (h : 9223372036854775807 < x) : sat x = 9223372036854775807 := by unfold sat; rw [if_neg (by omega), if_pos h]
theorem sat_in {x : Int} (h : Fx.R64 x) : sat x = x := by unfold Fx.R64 at h; unfold sat; rw [if_neg (by omega), if_neg (by omega)]
theorem sat_r (x : Int) : Fx.R64 (sat x) := by unfold sat Fx.R64; split; omega; split <;> omega
theorem Add_any (a b : Int) (ha : Fx.R64 a) (hb : Fx.R64 b) (w : World) :
    Calls Try.prog 82 #[.int .i64 a, .int .i64 b] w fun e w' => e = .returned (.int .i64 (sat (a + b))) ∧ w = w' := by
  unfold Fx.R64 at ha hb
  obtain ⟨a0, a1⟩ := ha
  obtain ⟨b0, b1⟩ := hb
  by_cases h1 : a + b < -9223372036854775808
  · rw [sat_lo h1]
    have e : wrap64 (a + b) = a + b + 18446744073709551616 := by unfold wrap64; omega
    have t1 : 0 ≤ a + b + 18446744073709551616 := by omega
    have t2 : a < 0 := by omega
    have t3 : b < 0 := by omega
    go_enter Try.func82, Try.ntmps82
    go_wp2_with (first | (go_at_call 153; go_in) | go_back)
    go_ret
    exact ⟨rfl, rfl⟩
  · by_cases h2 : 9223372036854775807 < a + b
    · rw [sat_hi h2]
      have e : wrap64 (a + b) = a + b - 18446744073709551616 := by unfold wrap64; omega
      have t1 : a + b - 18446744073709551616 < 0 := by omega
      have t2 : 0 < a := by omega
      have t3 : 0 < b := by omega
      go_enter Try.func82, Try.ntmps82
      go_wp2_with (first | (go_at_call 153; go_in) | go_back)
      go_ret
      exact ⟨rfl, rfl⟩
    · rw [sat_in ⟨by omega, by omega⟩]
      have h3 : -9223372036854775808 ≤ a + b := by omega
      have h4 : a + b ≤ 9223372036854775807 := by omega
      clear h1 h2
      by_cases t1 : 0 < a <;> by_cases t2 : 0 < b <;> by_cases t3 : a < 0 <;> by_cases t4 : b < 0
      all_goals first
        | (exfalso; omega)
        | (by_cases t5 : a + b < 0
           all_goals first
             | (exfalso; omega)
             | (have t6 : ¬ (0 ≤ a + b) ∨ 0 ≤ a + b := by omega
                rcases t6 with t6 | t6
                all_goals first
                  | (exfalso; omega)
                  | (go_enter Try.func82, Try.ntmps82
                     (go_wp2_with (first | (go_at_call 153; go_in) | go_back)) <;> (go_ret; exact ⟨rfl, rfl⟩))))
end Go.Proofs.Ytgehbebjgmeccaa
