/- Contracts of functions of the program and of its reference, out of walks. Their conditions stand ahead of each. -/
import Derived.Test.YtgehbebjgmeccaaRows
import Derived.JoinedOf
import Derived.KernelRfl
set_option linter.unusedVariables false
set_option linter.unusedSimpArgs false
namespace Go.Proofs.Ytgehbebjgmeccaa
open Go
theorem and_mk {a b : Bool} (ha : a = true) (hb : b = true) : (a && b) = true := by rw [ha, hb]; rfl
theorem closed1 : laidOutB Try.prog = true := by kernel_rfl
theorem closed2 : mapsRowed Try.prog = true := by kernel_rfl
theorem closed3 : (Try.prog.stops == []) = true := by kernel_rfl
theorem closed4 : (Try.prog.stopKnobs == []) = true := by kernel_rfl
theorem closed5 : Try.prog.stopsHeard = true := by kernel_rfl
theorem closed6 : Try.prog.mayEnter = true := by kernel_rfl
end Go.Proofs.Ytgehbebjgmeccaa
