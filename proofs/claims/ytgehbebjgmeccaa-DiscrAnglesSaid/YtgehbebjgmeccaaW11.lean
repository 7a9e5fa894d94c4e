/- Contracts of functions of the program and of its reference, out of walks. Their conditions stand ahead of each. -/
import Derived.Test.YtgehbebjgmeccaaW10
set_option linter.unusedVariables false
set_option linter.unusedSimpArgs false
namespace Go.Proofs.Ytgehbebjgmeccaa
open Go.RowKit
theorem full_any (t : Int) (h0 : -4096 ≤ t) (h1 : t ≤ 8192) (w : World) :
    Calls Try.prog 116 #[.int .i64 t] w fun e w' => e = .returned (.int .i64 ((t + 2048) % 4096 - 2048)) ∧ w = w' := by
  have e4 := K.and4095 (t + 2048)
  go_enter Try.func116, Try.ntmps116
  go_wp2
  go_ret
  exact ⟨rfl, rfl⟩
theorem half_any (t : Int) (h0 : -4096 ≤ t) (h1 : t ≤ 8192) (w : World) :
    Calls Try.prog 118 #[.int .i64 t] w fun e w' => e = .returned (.int .i64 ((t + 1024) % 2048 - 1024)) ∧ w = w' := by
  have e4 := K.and2047 (t + 1024)
  go_enter Try.func118, Try.ntmps118
  go_wp2
  go_ret
  exact ⟨rfl, rfl⟩
theorem within_full (t : Int) (h0 : 0 ≤ t) (h1 : t ≤ 4096) (w : World) :
    Calls Try.prog 117 #[.int .i64 t, .int .i64 2048] w fun e w' => e = .returned (.int .i64 ((t + 2048) % 4096 - 2048)) ∧ w = w' := by
  go_enter Try.func117, Try.ntmps117
  go_wp2
  go_ret
  exact ⟨rfl, rfl⟩
theorem within_half (t : Int) (h0 : 0 ≤ t) (h1 : t ≤ 4096) (w : World) :
    Calls Try.prog 117 #[.int .i64 t, .int .i64 1024] w fun e w' => e = .returned (.int .i64 ((t + 1024) % 2048 - 1024)) ∧ w = w' := by
  go_enter Try.func117, Try.ntmps117
  go_wp2
  go_ret
  exact ⟨rfl, rfl⟩
end Go.Proofs.Ytgehbebjgmeccaa
