/- Plain facts and contracts of functions of the program, out of walks. Their conditions stand ahead of each. -/
import Derived.Test.YtodigegjngnknaaDe36
import Derived.Below
import Derived.BigQuiet
import Derived.Deep.DeepCutAuto
import Derived.Deep.Draws
import Derived.Deep.LoopGhost
import Derived.Deep.QuietTactic
import Derived.Deep.RegionHeld3
import Derived.Deep.WholeRow
import Derived.Defers
import Derived.Great.BuildSlice
import Derived.Laws.Bits128
import Derived.Laws.BitsLemmas
import Derived.Laws.BytesString
import Derived.Laws.Cells
import Derived.Laws.CopyOwn
import Derived.Laws.Externs
import Derived.Laws.IdiomStrings
import Derived.Laws.NewBlocks
import Derived.Laws.OwnMore
import Derived.Laws.Pointers
import Derived.Laws.Rows
import Derived.Lib.BitFns
import Derived.Lib.Hide
import Derived.Lib.ItoaNum
import Derived.Lib.MinMax
import Derived.LoopIn
import Derived.LoopNIn
import Derived.Maps.AppendAt
import Derived.OrdersIn
import Derived.OwnWalk
import Derived.OwnWalkIn
import Derived.RangeFuncBound
import Derived.RangeFuncBox
import Derived.RangeFuncCalls
import Derived.RangeFuncLeaves
import Derived.RangeFuncNested
import Derived.RowKit3
import Derived.Shelf.Abstract
import Derived.Shelf.RegionOpen
import Derived.StillTactics
import Derived.StillTailTactics
import Derived.TacticsInMore
import Derived.Test.YtodigegjngnknaaProg
import Derived.WalkKit
import Derived.WalkLawsBesides
import Derived.WalkMore
import Derived.WalkSpells
set_option linter.unusedVariables false
set_option linter.unusedSimpArgs false
namespace Go.Proofs.Ytodigegjngnknaa
open Go Go.RowKit GW NL
def mx2 (x y : Int) : Int := if y > x then y else x
def mx6 (a b c d e f : Int) : Int := mx2 (mx2 (mx2 (mx2 (mx2 a b) c) d) e) f
theorem mx2_le {x y k : Int} : mx2 x y ≤ k ↔ x ≤ k ∧ y ≤ k := by
  unfold mx2
  split <;> omega
theorem mx6_le {a b c d e f k : Int} : mx6 a b c d e f ≤ k ↔ a ≤ k ∧ b ≤ k ∧ c ≤ k ∧ d ≤ k ∧ e ≤ k ∧ f ≤ k := by
  unfold mx6
  rw [mx2_le, mx2_le, mx2_le, mx2_le, mx2_le]
  omega
theorem run_mx2 {P : Program} (w : World) (k : IntKind) (x y : Int) : (Builtin.max2 (.int k x) (.int k y)).run P w = .ok (.int k (mx2 x y)) w := by
  simp [Builtin.max2, mx2]
theorem run_mx6 {P : Program} (w : World) (ts : Array TypeId) (t : TypeId) (k : IntKind) (a b c d e f : Int) :
    (Builtin.max_ ts t #[.int k a, .int k b, .int k c, .int k d, .int k e, .int k f]).run P w = .ok (.int k (mx6 a b c d e f)) w := by
  simp [Builtin.max_, List.foldlM, run_mx2, mx6]
theorem lsigns_no (a b : Int) (h : ¬ (0 < a ∧ b ≤ 0)) (h2 : ¬ (a < 0 ∧ 0 ≤ b)) (w : World) : Calls Try.prog 20 #[.int .i64 a, .int .i64 b] w fun e w' => e = .returned (.bool false) ∧ Below w.heap.size w w' := by
  refine calls_g fun g => ?_
  by_cases h3 : 0 < a
  · have h4 : ¬ b ≤ 0 := fun k => h ⟨h3, k⟩
    have h5 : ¬ a < 0 := by omega
    clear h h2
    go_enter Try.func20, Try.ntmps20
    go_wp2_with (with_reducible refine G.any_mark _ ?_; (try generalize Array.size (World.heap (G.w _)) = bk); (try dsimp only [List.set_cons_zero, List.set_cons_succ]); (try clear g); intro g)
    go_ret
    exact ⟨by simp, G.below _⟩
  · by_cases h5 : a < 0
    · have h6 : ¬ 0 ≤ b := fun k => h2 ⟨h5, k⟩
      clear h h2
      go_enter Try.func20, Try.ntmps20
      go_wp2_with (with_reducible refine G.any_mark _ ?_; (try generalize Array.size (World.heap (G.w _)) = bk); (try dsimp only [List.set_cons_zero, List.set_cons_succ]); (try clear g); intro g)
      go_ret
      exact ⟨by simp, G.below _⟩
    · clear h h2
      go_enter Try.func20, Try.ntmps20
      go_wp2_with (with_reducible refine G.any_mark _ ?_; (try generalize Array.size (World.heap (G.w _)) = bk); (try dsimp only [List.set_cons_zero, List.set_cons_succ]); (try clear g); intro g)
      go_ret
      exact ⟨by simp, G.below _⟩
end Go.Proofs.Ytodigegjngnknaa
namespace Go.Proofs.Ytodigegjngnknaa
open Go Go.RowKit GW NL
def eq3 (X Y Z U V W : Int) : Bool := X == U && (Y == V && Z == W)
theorem run_eq_pt (X Y Z U V W : Int) (w : World) : (binOp .eql 23 (.agg #[.int .i64 X, .int .i64 Y, .int .i64 Z]) (.agg #[.int .i64 U, .int .i64 V, .int .i64 W])).run Try.prog w = .ok (.bool (eq3 X Y Z U V W)) w := by
  unfold eq3
  by_cases h1 : X = U
  · subst h1
    by_cases h2 : Y = V
    · subst h2
      by_cases h3 : Z = W
      · subst h3
        go_simp
        try simp
      · have h4 : (Z == W) = false := by rw [beq_eq_false_iff_ne]; exact h3
        go_simp
        try simp
    · have h4 : (Y == V) = false := by rw [beq_eq_false_iff_ne]; exact h2
      go_simp
      try simp
  · have h4 : (X == U) = false := by rw [beq_eq_false_iff_ne]; exact h1
    go_simp
    try simp
theorem run_ne_pt (X Y Z U V W : Int) (w : World) : (binOp .neq 23 (.agg #[.int .i64 X, .int .i64 Y, .int .i64 Z]) (.agg #[.int .i64 U, .int .i64 V, .int .i64 W])).run Try.prog w = .ok (.bool (!(eq3 X Y Z U V W))) w := by
  unfold eq3
  by_cases h1 : X = U
  · subst h1
    by_cases h2 : Y = V
    · subst h2
      by_cases h3 : Z = W
      · subst h3
        go_simp
        try simp
      · have h4 : (Z == W) = false := by rw [beq_eq_false_iff_ne]; exact h3
        go_simp
        try simp
    · have h4 : (Y == V) = false := by rw [beq_eq_false_iff_ne]; exact h2
      go_simp
      try simp
  · have h4 : (X == U) = false := by rw [beq_eq_false_iff_ne]; exact h1
    go_simp
    try simp
theorem eq3_self (X Y Z : Int) : eq3 X Y Z X Y Z = true := by simp [eq3]
theorem eq3_ne {X Y Z U V W : Int} (h : ¬ (X = U ∧ Y = V ∧ Z = W)) : eq3 X Y Z U V W = false := by
  unfold eq3
  rw [Bool.eq_false_iff]
  intro k
  simp at k
  exact h k
def mn2 (x y : Int) : Int := if y < x then y else x
theorem run_mxs {P : Program} (w : World) (ts : Array TypeId) (t : TypeId) (k k' : IntKind) (x y : Int) :
    (Builtin.max_ ts t #[.int k x, .int k' y]).run P w = .ok (.int k (mx2 x y)) w := by
  simp [Builtin.max_, Builtin.max2, mx2]
theorem run_mns {P : Program} (w : World) (ts : Array TypeId) (t : TypeId) (k k' : IntKind) (x y : Int) :
    (Builtin.min_ ts t #[.int k x, .int k' y]).run P w = .ok (.int k (mn2 x y)) w := by
  simp [Builtin.min_, Builtin.min2, mn2]
theorem clamp_val (x : Int) : (mn2 (mx2 x (-100000000000)) 100000000000) = min (max x (-100000000000)) 100000000000 := by
  unfold mn2 mx2
  split <;> split <;> omega
theorem wf_I64 {n : Int} (h : (Lit.int .i64 n).wf = true) : I64 n := by
  simp [Lit.wf, IntKind.min, IntKind.max, IntKind.signed, IntKind.bits] at h
  unfold I64
  omega
theorem pick_i (m x : Int) (hm : 0 < m) (hm2 : m ≤ 4611686018427387904) (hx : I64 x) (w : World) : Calls Try.prog 16 #[.int .i64 x, .int .i64 m] w fun e w' => ∃ k : Int, (0 ≤ k ∧ k < m) ∧ e = .returned (.int .i64 k) ∧ Below w.heap.size w w' :=
  (pick_m m x hm hm2 hx.1 hx.2 w).mono fun e w' ⟨k, h1, h2, h3⟩ => ⟨k, ⟨by omega, h1⟩, h2, h3⟩
end Go.Proofs.Ytodigegjngnknaa
