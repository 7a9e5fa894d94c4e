/- Plain facts and contracts of functions of the program, out of walks. Their conditions stand ahead of each. -/
import Derived.Test.YtodigegjngnknaaDb29
import Derived.Test.YtodigegjngnknaaDb35
import Derived.Below
import Derived.BigQuiet
import Derived.Deep.DeepCutAuto
import Derived.Deep.Draws
import Derived.Deep.LoopGhost
import Derived.Deep.QuietTactic
import Derived.Deep.RegionHeld3
import Derived.Deep.WholeRow
import Derived.Defers
import Derived.Great.BuildSlice
import Derived.Laws.Bits128
import Derived.Laws.BitsLemmas
import Derived.Laws.BytesString
import Derived.Laws.Cells
import Derived.Laws.CopyOwn
import Derived.Laws.Externs
import Derived.Laws.IdiomStrings
import Derived.Laws.NewBlocks
import Derived.Laws.OwnMore
import Derived.Laws.Pointers
import Derived.Laws.Rows
import Derived.Lib.BitFns
import Derived.Lib.Hide
import Derived.Lib.ItoaNum
import Derived.LoopIn
import Derived.LoopNIn
import Derived.Maps.AppendAt
import Derived.OrdersIn
import Derived.OwnWalk
import Derived.OwnWalkIn
import Derived.RangeFuncBound
import Derived.RangeFuncBox
import Derived.RangeFuncCalls
import Derived.RangeFuncLeaves
import Derived.RangeFuncNested
import Derived.RowKit3
import Derived.Shelf.Abstract
import Derived.Shelf.RegionOpen
import Derived.StillTactics
import Derived.StillTailTactics
import Derived.TacticsInMore
import Derived.Test.YtodigegjngnknaaProg
import Derived.WalkKit
import Derived.WalkLawsBesides
import Derived.WalkMore
import Derived.WalkSpells
set_option linter.unusedVariables false
set_option linter.unusedSimpArgs false
set_option exponentiation.threshold 10000
namespace Go.Proofs.Ytodigegjngnknaa
open Go.RowKit GW NL Go.Proofs.Ytodigegjngnknaa.X
theorem range_both (X Y Z U V W : Int) : ∃ r e : Int, (∀ w, Calls Try.prog 11 #[.agg #[.int .i64 X, .int .i64 Y, .int .i64 Z], .agg #[.int .i64 U, .int .i64 V, .int .i64 W]] w fun en w' => en = .returned (.tuple #[.int .i64 r, .int .i64 e]) ∧ Below w.heap.size w w') ∧
    (∀ w, Calls Try.prog 27 #[.agg #[.int .i64 X, .int .i64 Y, .int .i64 Z], .agg #[.int .i64 U, .int .i64 V, .int .i64 W]] w fun en w' => en = .returned (.tuple #[.int .i64 r, .int .i64 e]) ∧ Below w.heap.size w w') := by
  by_cases hn : In3 100000000000 X Y Z ∧ In3 100000000000 U V W
  · obtain ⟨hp, hq⟩ := hn
    obtain ⟨da, db, dc⟩ := hp.diff hq
    obtain ⟨n0, n1⟩ := n2_bd da db dc
    obtain ⟨r, hr, hr4⟩ := root_exI n0 n1
    exact ⟨_, _, fun w => drange_yes X Y Z U V W _ _ _ _ r rfl rfl rfl rfl hr hp hq w, fun w => rrange_yes X Y Z U V W _ _ _ _ r rfl rfl rfl rfl hr hp hq w⟩
  · exact ⟨_, _, fun w => drange_no X Y Z U V W hn w, fun w => rrange_no X Y Z U V W hn w⟩
theorem dir_both (X Y Z U V W : Int) : ∃ x y z e : Int, (∀ w, Calls Try.prog 19 #[.agg #[.int .i64 X, .int .i64 Y, .int .i64 Z], .agg #[.int .i64 U, .int .i64 V, .int .i64 W]] w fun en w' => en = .returned (.tuple #[.agg #[.int .i64 x, .int .i64 y, .int .i64 z], .int .i64 e]) ∧ Below w.heap.size w w') ∧
    (∀ w, Calls Try.prog 28 #[.agg #[.int .i64 X, .int .i64 Y, .int .i64 Z], .agg #[.int .i64 U, .int .i64 V, .int .i64 W]] w fun en w' => en = .returned (.tuple #[.agg #[.int .i64 x, .int .i64 y, .int .i64 z], .int .i64 e]) ∧ Below w.heap.size w w') := by
  by_cases hn : In3 100000000000 X Y Z ∧ In3 100000000000 U V W
  · obtain ⟨hp, hq⟩ := hn
    by_cases he : X = U ∧ Y = V ∧ Z = W
    · obtain ⟨rfl, rfl, rfl⟩ := he
      exact ⟨_, _, _, _, fun w => ddir_eq X Y Z hp w, fun w => rdir_eq X Y Z hp w⟩
    · have hD := D_pos (D := _) rfl rfl rfl he rfl
      obtain ⟨x, hx⟩ := Dir1.ex (a := U - X) hD (by omega)
      obtain ⟨y, hy⟩ := Dir1.ex (a := V - Y) hD (by omega)
      obtain ⟨z, hz⟩ := Dir1.ex (a := W - Z) hD (by omega)
      exact ⟨x, y, z, _, fun w => ddir_yes X Y Z U V W _ _ _ x y z _ rfl rfl rfl hp hq he rfl hx hy hz w, fun w => rdir_yes X Y Z U V W _ _ _ x y z _ rfl rfl rfl hp hq he rfl hD hx hy hz w⟩
  · exact ⟨_, _, _, _, fun w => ddir_no X Y Z U V W hn w, fun w => rdir_no X Y Z U V W hn w⟩
theorem along_both (X Y Z U V W : Int) : ∃ r e : Int, (∀ w, Calls Try.prog 21 #[.agg #[.int .i64 X, .int .i64 Y, .int .i64 Z], .agg #[.int .i64 U, .int .i64 V, .int .i64 W]] w fun en w' => en = .returned (.tuple #[.int .i64 r, .int .i64 e]) ∧ Below w.heap.size w w') ∧
    (∀ w, Calls Try.prog 29 #[.agg #[.int .i64 X, .int .i64 Y, .int .i64 Z], .agg #[.int .i64 U, .int .i64 V, .int .i64 W]] w fun en w' => en = .returned (.tuple #[.int .i64 r, .int .i64 e]) ∧ Below w.heap.size w w') := by
  by_cases hn : In3 1073741824 X Y Z ∧ In3 100000000000 U V W
  · exact ⟨_, _, fun w => dalong_yes X Y Z U V W hn.1 hn.2 w, fun w => ralong_yes X Y Z U V W hn.1 hn.2 w⟩
  · exact ⟨_, _, fun w => dalong_no X Y Z U V W hn w, fun w => ralong_no X Y Z U V W hn w⟩
set_option maxRecDepth 20000 in
set_option maxHeartbeats 2000000 in
theorem ranges_walk (X Y Z U V W A B C : Int) (w : World) :
    Calls Try.prog 7 #[.agg #[.int .i64 X, .int .i64 Y, .int .i64 Z], .agg #[.int .i64 U, .int .i64 V, .int .i64 W], .agg #[.int .i64 A, .int .i64 B, .int .i64 C]] w fun e w' => e = .returned (.bool true) ∧ Below w.heap.size w w' := by
  refine calls_b fun g => ?_
  obtain ⟨r, re, r1, r2⟩ := range_both X Y Z U V W
  obtain ⟨x, y, z, de, d1, d2⟩ := dir_both X Y Z U V W
  obtain ⟨a, ae, a1, a2⟩ := along_both A B C X Y Z
  have C1 := Lib.hid r1
  have C2 := Lib.hid r2
  have C3 := Lib.hid d1
  have C4 := Lib.hid d2
  have C5 := Lib.hid a1
  have C6 := Lib.hid a2
  have C7 := Lib.hid lives_ok
  clear r1 r2 d1 d2 a1 a2
  go_enter Try.func7, Try.ntmps7
  go_wp2_with (with_reducible refine G.any_mark _ ?_; (try generalize Array.size (World.heap (G.w _)) = bk); (try dsimp only [List.set_cons_zero, List.set_cons_succ]); (try clear g); intro g)
  refine (C1.out _).mono ?_
  rintro e w1 ⟨rfl, hb⟩
  obtain ⟨g1, rfl⟩ := G.call_ex _ hb
  clear hb
  (try clear g)
  revert g1
  intro g
  go_wp2_with (with_reducible refine G.any_mark _ ?_; (try generalize Array.size (World.heap (G.w _)) = bk); (try dsimp only [List.set_cons_zero, List.set_cons_succ]); (try clear g); intro g)
  refine (C2.out _).mono ?_
  rintro e w1 ⟨rfl, hb⟩
  obtain ⟨g1, rfl⟩ := G.call_ex _ hb
  clear hb
  (try clear g)
  revert g1
  intro g
  go_wp2_with (with_reducible refine G.any_mark _ ?_; (try generalize Array.size (World.heap (G.w _)) = bk); (try dsimp only [List.set_cons_zero, List.set_cons_succ]); (try clear g); intro g)
  refine (C3.out _).mono ?_
  rintro e w1 ⟨rfl, hb⟩
  obtain ⟨g1, rfl⟩ := G.call_ex _ hb
  clear hb
  (try clear g)
  revert g1
  intro g
  go_wp2_with (with_reducible refine G.any_mark _ ?_; (try generalize Array.size (World.heap (G.w _)) = bk); (try dsimp only [List.set_cons_zero, List.set_cons_succ]); (try clear g); intro g)
  refine (C4.out _).mono ?_
  rintro e w1 ⟨rfl, hb⟩
  obtain ⟨g1, rfl⟩ := G.call_ex _ hb
  clear hb
  (try clear g)
  revert g1
  intro g
  go_wp2_with (with_reducible refine G.any_mark _ ?_; (try generalize Array.size (World.heap (G.w _)) = bk); (try dsimp only [List.set_cons_zero, List.set_cons_succ]); (try clear g); intro g)
  refine (C5.out _).mono ?_
  rintro e w1 ⟨rfl, hb⟩
  obtain ⟨g1, rfl⟩ := G.call_ex _ hb
  clear hb
  (try clear g)
  revert g1
  intro g
  go_wp2_with (with_reducible refine G.any_mark _ ?_; (try generalize Array.size (World.heap (G.w _)) = bk); (try dsimp only [List.set_cons_zero, List.set_cons_succ]); (try clear g); intro g)
  refine (C6.out _).mono ?_
  rintro e w1 ⟨rfl, hb⟩
  obtain ⟨g1, rfl⟩ := G.call_ex _ hb
  clear hb
  (try clear g)
  revert g1
  intro g
  go_wp2_with (with_reducible refine G.any_mark _ ?_; (try generalize Array.size (World.heap (G.w _)) = bk); (try dsimp only [List.set_cons_zero, List.set_cons_succ]); (try clear g); intro g)
  refine (C7.out _).mono ?_
  rintro e w1 ⟨rfl, hb⟩
  obtain ⟨g1, rfl⟩ := G.call_ex _ hb
  clear hb
  (try clear g)
  revert g1
  intro g
  go_wp2_with (with_reducible refine G.any_mark _ ?_; (try generalize Array.size (World.heap (G.w _)) = bk); (try dsimp only [List.set_cons_zero, List.set_cons_succ]); (try clear g); intro g)
  go_ret
  exact ⟨by simp, G.below _⟩
end Go.Proofs.Ytodigegjngnknaa
