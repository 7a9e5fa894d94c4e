/- Plain facts and contracts of functions of the program, out of walks. Their conditions stand ahead of each. -/
import Derived.Test.YtodigegjngnknaaDe16
import Derived.Below
import Derived.BigQuiet
import Derived.Deep.Draws
import Derived.Deep.QuietTactic
import Derived.Deep.RegionHeld3
import Derived.Deep.WholeRow
import Derived.Great.BuildSlice
import Derived.Laws.Bits128
import Derived.Laws.BitsLemmas
import Derived.Laws.Externs
import Derived.Laws.NewBlocks
import Derived.Laws.OwnMore
import Derived.Laws.Pointers
import Derived.Laws.Rows
import Derived.Lib.Hide
import Derived.RowKit3
import Derived.StillTactics
import Derived.StillTailTactics
import Derived.Test.YtodigegjngnknaaProg
import Derived.WalkKit
import Derived.WalkLawsBesides
import Derived.WalkSpells
set_option linter.unusedVariables false
set_option linter.unusedSimpArgs false
namespace Go.Proofs.Ytodigegjngnknaa.X
open Go.RowKit GW
/-- saturated -/
def sat (x : Int) : Int := if x < -9223372036854775808 then -9223372036854775808 else if 9223372036854775807 < x then 9223372036854775807 else x
theorem sat_lo {x : Int} (h : x < -9223372036854775808) : sat x = -9223372036854775808 := by unfold sat; rw [if_pos h]
theorem sat_hi {x : Int} (h : 9223372036854775807 < x) : sat x = 9223372036854775807 := by unfold sat; rw [if_neg (by omega), if_pos h]
theorem sat_in {x : Int} (h : Fx.R64 x) : sat x = x := by unfold Fx.R64 at h; unfold sat; rw [if_neg (by omega), if_neg (by omega)]
theorem sat_r (x : Int) : Fx.R64 (sat x) := by unfold sat Fx.R64; split; omega; split <;> omega
end Go.Proofs.Ytodigegjngnknaa.X
namespace Go.Proofs.Ytodigegjngnknaa.X
open Go.RowKit GW
theorem rAdd_any (a b : Int) (ha : Fx.R64 a) (hb : Fx.R64 b) (w : World) :
    Calls Try.prog 30 #[.int .i64 a, .int .i64 b] w fun e w' => e = .returned (.int .i64 (sat (a + b))) ∧ w = w' := by
  unfold Fx.R64 at ha hb
  obtain ⟨a0, a1⟩ := ha
  obtain ⟨b0, b1⟩ := hb
  by_cases t1 : 0 < b
  · have w1 : IntKind.i64.wrap (9223372036854775807 - b) = 9223372036854775807 - b := IntWalk.i64_in _ (by omega)
    have t4 : ¬ b < 0 := by omega
    by_cases t2 : 9223372036854775807 - b < a
    · rw [sat_hi (by omega)]
      go_enter Try.func30, Try.ntmps30
      go_wp2_with fail
      go_ret
      exact ⟨rfl, rfl⟩
    · rw [sat_in ⟨by omega, by omega⟩]
      have h3 : -9223372036854775808 ≤ a + b := by omega
      have h4 : a + b ≤ 9223372036854775807 := by omega
      go_enter Try.func30, Try.ntmps30
      go_wp2_with fail
      go_ret
      exact ⟨rfl, rfl⟩
  · by_cases t4 : b < 0
    · have w1 : IntKind.i64.wrap (-9223372036854775808 - b) = -9223372036854775808 - b := IntWalk.i64_in _ (by omega)
      by_cases t2 : a < -9223372036854775808 - b
      · rw [sat_lo (by omega)]
        go_enter Try.func30, Try.ntmps30
        go_wp2_with fail
        go_ret
        exact ⟨rfl, rfl⟩
      · rw [sat_in ⟨by omega, by omega⟩]
        have h3 : -9223372036854775808 ≤ a + b := by omega
        have h4 : a + b ≤ 9223372036854775807 := by omega
        go_enter Try.func30, Try.ntmps30
        go_wp2_with fail
        go_ret
        exact ⟨rfl, rfl⟩
    · obtain rfl : b = 0 := by omega
      rw [sat_in ⟨by omega, by omega⟩]
      have h3 : -9223372036854775808 ≤ a + 0 := by omega
      have h4 : a + 0 ≤ 9223372036854775807 := by omega
      go_enter Try.func30, Try.ntmps30
      go_wp2_with fail
      go_ret
      exact ⟨by simp, rfl⟩
end Go.Proofs.Ytodigegjngnknaa.X
