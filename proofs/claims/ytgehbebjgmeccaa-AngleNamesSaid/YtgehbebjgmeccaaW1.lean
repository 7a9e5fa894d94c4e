/- Contracts of functions of the program and of its reference, out of walks. Their conditions stand ahead of each. -/
import Derived.Test.YtgehbebjgmeccaaProg
import Derived.WalkKit
import Derived.WalkSpells
import Derived.WalkLawsBesides
import Derived.StillTactics
import Derived.StillTailTactics
import Derived.Laws.Pointers
import Derived.Deep.RegionHeld3
import Derived.Deep.QuietTactic
import Derived.BigQuiet
import Derived.RowKit3
import Derived.Lib.Hide
import Derived.Great.BuildSlice
import Derived.Deep.WholeRow
import Derived.Test.YtgehbebjgmeccaaPe
import Derived.Test.YtgehbebjgmeccaaK1
set_option linter.unusedVariables false
set_option linter.unusedSimpArgs false
namespace Go.Proofs.Ytgehbebjgmeccaa
open Go.RowKit
theorem ret_int {k : IntKind} {a b : Int} (h : a = b) : Ending.returned (.int k a) = .returned (.int k b) := by rw [h]
theorem bcell {W w1 : World} (hb : Below W.heap.size W w1) : (∀ b o, b < W.heap.size → w1.cell? ⟨b, o, none⟩ = W.cell? ⟨b, o, none⟩) ∧ (∀ b o, b < W.heap.size → w1.frozen? ⟨b, o, none⟩ = W.frozen? ⟨b, o, none⟩) :=
  ⟨fun b o h => hb.cell (p := ⟨b, o, none⟩) h, fun b o h => hb.frozen (p := ⟨b, o, none⟩) h⟩
theorem left_any (x y : Int) (_hx : -9223372036854775807 ≤ x ∧ x ≤ 9223372036854775807) (hy : -9223372036854775807 ≤ y ∧ y ≤ 9223372036854775807) (w : World) :
    Calls Try.prog 186 #[.agg #[.int .i64 x, .int .i64 y]] w fun e w' => e = .returned (.agg #[.int .i64 (-y), .int .i64 x]) ∧ Below w.heap.size w w' := by
  obtain ⟨y0, y1⟩ := hy
  go_enter Try.func186, Try.ntmps186
  go_wp2
  simp [bodyPost, results, Try.results186, go_sem]
  exact ((Below.refl _ _).alloc (Nat.le_refl _) _).alloc (by simp) _
def wvA : Array Value := (Ang.wv.map (Value.int .i64 ·)).toArray
def zsA : Array Value := #[.int .i64 0, .int .i64 0, .int .i64 0, .int .i64 0, .int .i64 0, .int .i64 0, .int .i64 0, .int .i64 0, .int .i64 0, .int .i64 0, .int .i64 0, .int .i64 0, .int .i64 0, .int .i64 0, .int .i64 0, .int .i64 0, .int .i64 0]
theorem wave_any (w : World) :
    Calls Try.prog 170 #[] w fun e w' => e = .returned (.agg wvA) ∧ w' = w.alloc (.cells wvA 137) := by
  have hst := run_storeCells_new (P := Try.prog) w 137 zsA wvA (by kernel_rfl) (by kernel_rfl) (by kernel_rfl)
  unfold zsA at hst
  go_enter Try.func170, Try.ntmps170
  go_wp2_with (first | (refine wpList_buildTo rfl 137 _ rfl _ rfl wvA ?hb ?_; case hb => (as_aux_lemma => kernel_rfl)))
  exact bodyPost_ret (v := .agg wvA) (results_cell_row (p := 0) (ty := 137) (by kernel_rfl) _ _ w.heap.size 137 wvA (0, 0) _ rfl (heap_alloc_last w _) Try.underlying137 rfl (by kernel_rfl)) rfl ⟨rfl, rfl⟩
end Go.Proofs.Ytgehbebjgmeccaa
