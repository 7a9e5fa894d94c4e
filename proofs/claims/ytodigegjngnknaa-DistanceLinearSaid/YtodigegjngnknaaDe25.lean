/- Plain facts and contracts of functions of the program, out of walks. Their conditions stand ahead of each. -/
import Derived.Test.YtodigegjngnknaaDe1
import Derived.Test.YtodigegjngnknaaDe14
import Derived.Test.YtodigegjngnknaaDe16
import Derived.Test.YtodigegjngnknaaDe20
import Derived.Below
import Derived.BigQuiet
import Derived.Deep.Draws
import Derived.Deep.QuietTactic
import Derived.Deep.RegionHeld3
import Derived.Deep.WholeRow
import Derived.Great.BuildSlice
import Derived.Laws.Bits128
import Derived.Laws.BitsLemmas
import Derived.Laws.Externs
import Derived.Laws.NewBlocks
import Derived.Laws.OwnMore
import Derived.Laws.Pointers
import Derived.Laws.Rows
import Derived.Lib.BitFns
import Derived.Lib.Hide
import Derived.Lib.ItoaNum
import Derived.LoopIn
import Derived.LoopNIn
import Derived.OrdersIn
import Derived.OwnWalkIn
import Derived.RangeFuncBound
import Derived.RangeFuncBox
import Derived.RangeFuncCalls
import Derived.RangeFuncLeaves
import Derived.RangeFuncNested
import Derived.RowKit3
import Derived.Shelf.Abstract
import Derived.Shelf.RegionOpen
import Derived.StillTactics
import Derived.StillTailTactics
import Derived.TacticsInMore
import Derived.Test.YtodigegjngnknaaProg
import Derived.WalkKit
import Derived.WalkLawsBesides
import Derived.WalkSpells
set_option linter.unusedVariables false
set_option linter.unusedSimpArgs false
set_option exponentiation.threshold 10000
namespace Go.Proofs.Ytodigegjngnknaa
open Go.RowKit GW NL Go.Proofs.Ytodigegjngnknaa.X
theorem sq_bd {a k : Int} (h : -k ≤ a ∧ a ≤ k) : 0 ≤ a * a ∧ a * a ≤ k * k := by
  refine ⟨DI.sq_nn a, ?_⟩
  rcases Int.le_total 0 a with g | g
  · exact DI.sq_mono h.2 g
  · have := DI.sq_mono (show -a ≤ k by omega) (by omega)
    rwa [Int.neg_mul_neg] at this
/-- the square of a distance is bounded -/
theorem n2_bd {a b c : Int} (ha : -200000000000 ≤ a ∧ a ≤ 200000000000) (hb : -200000000000 ≤ b ∧ b ≤ 200000000000) (hc : -200000000000 ≤ c ∧ c ≤ 200000000000) : 0 ≤ a * a + b * b + c * c ∧ a * a + b * b + c * c ≤ 120000000000000000000000 := by
  have := sq_bd ha
  have := sq_bd hb
  have := sq_bd hc
  omega
theorem wide_up {N : Int} (h0 : 0 ≤ N) (h1 : N ≤ 120000000000000000000000) : Fx.ovE N = 0 ∧ Fx.ovH N = N / 18446744073709551616 ∧ Fx.ovL N = N % 18446744073709551616 := Fx.ov_yes ⟨by omega, by omega⟩
theorem root_exI {N : Int} (h0 : 0 ≤ N) (h1 : N ≤ 120000000000000000000000) : ∃ r, IsRoot r N ∧ r ≤ 400000000000 := by
  obtain ⟨n, rfl⟩ := Int.eq_ofNat_of_zero_le h0
  obtain ⟨r, a, b⟩ := DI.root_ex n
  have hr : (r : Int) ≤ 400000000000 := by
    have : (r : Int) * (r : Int) ≤ (n : Int) := by exact_mod_cast a
    exact DI.sq_le (by omega) (by decide)
  refine ⟨r, ⟨by omega, by omega, by exact_mod_cast a, by exact_mod_cast b⟩, hr⟩
theorem field_pt (a b c : Int) (w : World) : (Instr.field 55 (.agg #[.int .i64 a, .int .i64 b, .int .i64 c]) 0).run Try.prog w = .ok (.agg #[.int .i64 a, .int .i64 b, .int .i64 c]) w := by kernel_rfl
theorem In3.diff {X Y Z U V W : Int} (hp : In3 100000000000 X Y Z) (hq : In3 100000000000 U V W) : (-200000000000 ≤ U - X ∧ U - X ≤ 200000000000) ∧ (-200000000000 ≤ V - Y ∧ V - Y ≤ 200000000000) ∧ (-200000000000 ≤ W - Z ∧ W - Z ≤ 200000000000) := by
  unfold In3 In at *; omega
theorem wrap_sm {a : Int} (h : -200000000000 ≤ a ∧ a ≤ 200000000000) : IntKind.i64.wrap a = a := by rw [IntKind.wrap_i64]; omega
set_option maxRecDepth 20000 in
theorem drange_yes (X Y Z U V W a b c N r : Int) (ha : U - X = a) (hb : V - Y = b) (hc : W - Z = c) (hN : a * a + b * b + c * c = N) (hr : IsRoot r N) (hp : In3 100000000000 X Y Z) (hq : In3 100000000000 U V W) (w : World) :
    Calls Try.prog 11 #[.agg #[.int .i64 X, .int .i64 Y, .int .i64 Z], .agg #[.int .i64 U, .int .i64 V, .int .i64 W]] w fun e w' => e = .returned (.tuple #[.int .i64 r, .int .i64 0]) ∧ Below w.heap.size w w' := by
  refine calls_b fun g => ?_
  obtain ⟨da, db, dc⟩ := hp.diff hq
  rw [ha] at da
  rw [hb] at db
  rw [hc] at dc
  obtain ⟨n0, n1⟩ := n2_bd da db dc
  rw [hN] at n0 n1
  obtain ⟨v1, v2, v3⟩ := wide_up n0 n1
  have CN := Lib.hid (fun s w h0 h1 h2 h3 h4 h5 => near2_any s X Y Z U V W w h0 h1 h2 h3 h4 h5)
  rw [decide_eq_true hp, decide_eq_true hq] at CN
  have CL := Lib.hid (fun w => less_any U V W X Y Z a b c w ha hb hc (wrap_sm da) (wrap_sm db) (wrap_sm dc))
  have CW := Lib.hid (fun w => Norm_any a b c (show Fx.R64 a from ⟨by omega, by omega⟩) (show Fx.R64 b from ⟨by omega, by omega⟩) (show Fx.R64 c from ⟨by omega, by omega⟩) w)
  rw [hN, v1, v2, v3] at CW
  have CR : Hid (∀ w, Calls Try.prog 37 #[.agg #[.int .i64 (N / 18446744073709551616), .int .u64 (N % 18446744073709551616)]] w fun e w' => e = .returned (.tuple #[.int .i64 r, .int .i64 0]) ∧ Below w.heap.size w w') :=
    Lib.hid (fun w => (RootWide_any (N / 18446744073709551616) (N % 18446744073709551616) (by omega) (by omega) (by omega) (by omega) w).mono (by
      rintro e w' ⟨r', h1, rfl, hb⟩
      rw [show N / 18446744073709551616 * 18446744073709551616 + N % 18446744073709551616 = N by omega] at h1
      rw [root_uniq h1 hr]
      exact ⟨rfl, hb⟩))
  generalize N / 18446744073709551616 = H at *
  generalize N % 18446744073709551616 = L at *
  clear ha hb hc hN hr hp hq da db dc n0 n1 v1 v2 v3
  go_enter Try.func11, Try.ntmps11
  go_wp2_with (with_reducible refine G.any_mark _ ?_; (try generalize Array.size (World.heap (G.w _)) = bk); (try dsimp only [List.set_cons_zero, List.set_cons_succ]); (try clear g); intro g)
  refine (CN.out _ _ ?_ ?_ ?_ ?_ ?_ ?_).mono ?_
  iterate 6 (· go_simp)
  rintro e w1 ⟨rfl, hb⟩
  obtain ⟨g1, rfl⟩ := G.call_ex _ hb
  clear hb
  (try clear g)
  revert g1
  intro g
  go_wp2_with (with_reducible refine G.any_mark _ ?_; (try generalize Array.size (World.heap (G.w _)) = bk); (try dsimp only [List.set_cons_zero, List.set_cons_succ]); (try clear g); intro g)
  refine (CL.out _).mono ?_
  rintro e w1 ⟨rfl, hb⟩
  obtain ⟨g1, rfl⟩ := G.call_ex _ hb
  clear hb
  (try clear g)
  revert g1
  intro g
  have hfp := field_pt a b c g.w
  go_wp2_with (with_reducible refine G.any_mark _ ?_; (try generalize Array.size (World.heap (G.w _)) = bk); (try dsimp only [List.set_cons_zero, List.set_cons_succ]); (try clear g); intro g)
  refine (CW.out _).mono ?_
  rintro e w1 ⟨rfl, hb⟩
  obtain ⟨g1, rfl⟩ := G.call_ex _ hb
  clear hb
  (try clear g)
  revert g1
  intro g
  go_wp2_with (with_reducible refine G.any_mark _ ?_; (try generalize Array.size (World.heap (G.w _)) = bk); (try dsimp only [List.set_cons_zero, List.set_cons_succ]); (try clear g); intro g)
  refine (CR.out _).mono ?_
  rintro e w1 ⟨rfl, hb⟩
  obtain ⟨g1, rfl⟩ := G.call_ex _ hb
  clear hb
  (try clear g)
  revert g1
  intro g
  go_wp2_with (with_reducible refine G.any_mark _ ?_; (try generalize Array.size (World.heap (G.w _)) = bk); (try dsimp only [List.set_cons_zero, List.set_cons_succ]); (try clear g); intro g)
  go_ret2
  exact ⟨rfl, G.below _⟩
set_option maxRecDepth 20000 in
theorem drange_no (X Y Z U V W : Int) (h : ¬ (In3 100000000000 X Y Z ∧ In3 100000000000 U V W)) (w : World) :
    Calls Try.prog 11 #[.agg #[.int .i64 X, .int .i64 Y, .int .i64 Z], .agg #[.int .i64 U, .int .i64 V, .int .i64 W]] w fun e w' => e = .returned (.tuple #[.int .i64 0, .int .i64 2]) ∧ Below w.heap.size w w' := by
  refine calls_b fun g => ?_
  have CN := Lib.hid (fun s w h0 h1 h2 h3 h4 h5 => near2_any s X Y Z U V W w h0 h1 h2 h3 h4 h5)
  have e : (decide (In3 100000000000 X Y Z) && decide (In3 100000000000 U V W)) = false := by
    rw [← Bool.decide_and]
    exact decide_eq_false h
  rw [e, show nearE false = 2 from rfl] at CN
  clear h e
  go_enter Try.func11, Try.ntmps11
  go_wp2_with (with_reducible refine G.any_mark _ ?_; (try generalize Array.size (World.heap (G.w _)) = bk); (try dsimp only [List.set_cons_zero, List.set_cons_succ]); (try clear g); intro g)
  refine (CN.out _ _ ?_ ?_ ?_ ?_ ?_ ?_).mono ?_
  iterate 6 (· go_simp)
  rintro e w1 ⟨rfl, hb⟩
  obtain ⟨g1, rfl⟩ := G.call_ex _ hb
  clear hb
  (try clear g)
  revert g1
  intro g
  go_wp2_with (with_reducible refine G.any_mark _ ?_; (try generalize Array.size (World.heap (G.w _)) = bk); (try dsimp only [List.set_cons_zero, List.set_cons_succ]); (try clear g); intro g)
  go_ret2
  exact ⟨rfl, G.below _⟩
set_option maxRecDepth 20000 in
theorem rrange_yes (X Y Z U V W a b c N r : Int) (ha : U - X = a) (hb : V - Y = b) (hc : W - Z = c) (hN : a * a + b * b + c * c = N) (hr : IsRoot r N) (hp : In3 100000000000 X Y Z) (hq : In3 100000000000 U V W) (w : World) :
    Calls Try.prog 27 #[.agg #[.int .i64 X, .int .i64 Y, .int .i64 Z], .agg #[.int .i64 U, .int .i64 V, .int .i64 W]] w fun e w' => e = .returned (.tuple #[.int .i64 r, .int .i64 0]) ∧ Below w.heap.size w w' := by
  refine calls_b fun g => ?_
  obtain ⟨da, db, dc⟩ := hp.diff hq
  rw [ha] at da
  rw [hb] at db
  rw [hc] at dc
  obtain ⟨n0, n1⟩ := n2_bd da db dc
  rw [hN] at n0 n1
  obtain ⟨v1, v2, v3⟩ := wide_up n0 n1
  have CP := Lib.hid (fun w => rnear_any X Y Z w)
  rw [decide_eq_true hp] at CP
  have CQ := Lib.hid (fun w => rnear_any U V W w)
  rw [decide_eq_true hq] at CQ
  have CL := Lib.hid (fun w => rless_any U V W X Y Z a b c w ha hb hc (wrap_sm da) (wrap_sm db) (wrap_sm dc))
  have CW := Lib.hid (fun w => rNorm_any a b c (show Fx.R64 a from ⟨by omega, by omega⟩) (show Fx.R64 b from ⟨by omega, by omega⟩) (show Fx.R64 c from ⟨by omega, by omega⟩) w)
  rw [hN, v1, v2, v3] at CW
  have CR : Hid (∀ w, Calls Try.prog 62 #[.agg #[.int .i64 (N / 18446744073709551616), .int .u64 (N % 18446744073709551616)]] w fun e w' => e = .returned (.tuple #[.int .i64 r, .int .i64 0]) ∧ Below w.heap.size w w') :=
    Lib.hid (fun w => (rRootWide_any (N / 18446744073709551616) (N % 18446744073709551616) (by omega) (by omega) (by omega) (by omega) w).mono (by
      rintro e w' ⟨r', h1, rfl, hb⟩
      rw [show N / 18446744073709551616 * 18446744073709551616 + N % 18446744073709551616 = N by omega] at h1
      rw [root_uniq h1 hr]
      exact ⟨rfl, hb⟩))
  generalize N / 18446744073709551616 = H at *
  generalize N % 18446744073709551616 = L at *
  clear ha hb hc hN hr hp hq da db dc n0 n1 v1 v2 v3
  go_enter Try.func27, Try.ntmps27
  go_wp2_with (with_reducible refine G.any_mark _ ?_; (try generalize Array.size (World.heap (G.w _)) = bk); (try dsimp only [List.set_cons_zero, List.set_cons_succ]); (try clear g); intro g)
  refine (CP.out _).mono ?_
  rintro e w1 ⟨rfl, hb⟩
  obtain ⟨g1, rfl⟩ := G.call_ex _ hb
  clear hb
  (try clear g)
  revert g1
  intro g
  go_wp2_with (with_reducible refine G.any_mark _ ?_; (try generalize Array.size (World.heap (G.w _)) = bk); (try dsimp only [List.set_cons_zero, List.set_cons_succ]); (try clear g); intro g)
  refine (CQ.out _).mono ?_
  rintro e w1 ⟨rfl, hb⟩
  obtain ⟨g1, rfl⟩ := G.call_ex _ hb
  clear hb
  (try clear g)
  revert g1
  intro g
  go_wp2_with (with_reducible refine G.any_mark _ ?_; (try generalize Array.size (World.heap (G.w _)) = bk); (try dsimp only [List.set_cons_zero, List.set_cons_succ]); (try clear g); intro g)
  refine (CL.out _).mono ?_
  rintro e w1 ⟨rfl, hb⟩
  obtain ⟨g1, rfl⟩ := G.call_ex _ hb
  clear hb
  (try clear g)
  revert g1
  intro g
  have hfp := field_pt a b c g.w
  go_wp2_with (with_reducible refine G.any_mark _ ?_; (try generalize Array.size (World.heap (G.w _)) = bk); (try dsimp only [List.set_cons_zero, List.set_cons_succ]); (try clear g); intro g)
  refine (CW.out _).mono ?_
  rintro e w1 ⟨rfl, hb⟩
  obtain ⟨g1, rfl⟩ := G.call_ex _ hb
  clear hb
  (try clear g)
  revert g1
  intro g
  go_wp2_with (with_reducible refine G.any_mark _ ?_; (try generalize Array.size (World.heap (G.w _)) = bk); (try dsimp only [List.set_cons_zero, List.set_cons_succ]); (try clear g); intro g)
  refine (CR.out _).mono ?_
  rintro e w1 ⟨rfl, hb⟩
  obtain ⟨g1, rfl⟩ := G.call_ex _ hb
  clear hb
  (try clear g)
  revert g1
  intro g
  go_wp2_with (with_reducible refine G.any_mark _ ?_; (try generalize Array.size (World.heap (G.w _)) = bk); (try dsimp only [List.set_cons_zero, List.set_cons_succ]); (try clear g); intro g)
  go_ret2
  exact ⟨rfl, G.below _⟩
set_option maxRecDepth 20000 in
theorem rrange_no (X Y Z U V W : Int) (h : ¬ (In3 100000000000 X Y Z ∧ In3 100000000000 U V W)) (w : World) :
    Calls Try.prog 27 #[.agg #[.int .i64 X, .int .i64 Y, .int .i64 Z], .agg #[.int .i64 U, .int .i64 V, .int .i64 W]] w fun e w' => e = .returned (.tuple #[.int .i64 0, .int .i64 2]) ∧ Below w.heap.size w w' := by
  refine calls_b fun g => ?_
  have CP := Lib.hid (fun w => rnear_any X Y Z w)
  have CQ := Lib.hid (fun w => rnear_any U V W w)
  by_cases hp : In3 100000000000 X Y Z
  · have hq : ¬ In3 100000000000 U V W := fun hq => h ⟨hp, hq⟩
    rw [decide_eq_true hp] at CP
    rw [decide_eq_false hq] at CQ
    clear h hp hq
    go_enter Try.func27, Try.ntmps27
    go_wp2_with (with_reducible refine G.any_mark _ ?_; (try generalize Array.size (World.heap (G.w _)) = bk); (try dsimp only [List.set_cons_zero, List.set_cons_succ]); (try clear g); intro g)
    refine (CP.out _).mono ?_
    rintro e w1 ⟨rfl, hb⟩
    obtain ⟨g1, rfl⟩ := G.call_ex _ hb
    clear hb
    (try clear g)
    revert g1
    intro g
    go_wp2_with (with_reducible refine G.any_mark _ ?_; (try generalize Array.size (World.heap (G.w _)) = bk); (try dsimp only [List.set_cons_zero, List.set_cons_succ]); (try clear g); intro g)
    refine (CQ.out _).mono ?_
    rintro e w1 ⟨rfl, hb⟩
    obtain ⟨g1, rfl⟩ := G.call_ex _ hb
    clear hb
    (try clear g)
    revert g1
    intro g
    go_wp2_with (with_reducible refine G.any_mark _ ?_; (try generalize Array.size (World.heap (G.w _)) = bk); (try dsimp only [List.set_cons_zero, List.set_cons_succ]); (try clear g); intro g)
    go_ret2
    exact ⟨rfl, G.below _⟩
  · rw [decide_eq_false hp] at CP
    clear h hp
    go_enter Try.func27, Try.ntmps27
    go_wp2_with (with_reducible refine G.any_mark _ ?_; (try generalize Array.size (World.heap (G.w _)) = bk); (try dsimp only [List.set_cons_zero, List.set_cons_succ]); (try clear g); intro g)
    refine (CP.out _).mono ?_
    rintro e w1 ⟨rfl, hb⟩
    obtain ⟨g1, rfl⟩ := G.call_ex _ hb
    clear hb
    (try clear g)
    revert g1
    intro g
    go_wp2_with (with_reducible refine G.any_mark _ ?_; (try generalize Array.size (World.heap (G.w _)) = bk); (try dsimp only [List.set_cons_zero, List.set_cons_succ]); (try clear g); intro g)
    go_ret2
    exact ⟨rfl, G.below _⟩
end Go.Proofs.Ytodigegjngnknaa
namespace Go.Proofs.Ytodigegjngnknaa
open Go.RowKit GW NL Go.Proofs.Ytodigegjngnknaa.X
set_option maxRecDepth 20000 in
theorem dspan_yes (X Y Z U V W a b c N r h lo : Int) (ha : U - X = a) (hb : V - Y = b) (hc : W - Z = c) (hN : a * a + b * b + c * c = N) (hr : IsRoot r N) (hr4 : r ≤ 400000000000) (hp : In3 100000000000 X Y Z) (hq : In3 100000000000 U V W) (hh : Way h) (hlo : (if h ≤ r then r - h else 0) = lo) (w : World) :
    Calls Try.prog 17 #[.agg #[.int .i64 X, .int .i64 Y, .int .i64 Z], .agg #[.int .i64 U, .int .i64 V, .int .i64 W], .int .i64 h] w fun e w' => e = .returned (.tuple #[.int .i64 lo, .int .i64 (r + h), .int .i64 0]) ∧ Below w.heap.size w w' := by
  refine calls_b fun g => ?_
  have C1 := Lib.hid (fun w => drange_yes X Y Z U V W a b c N r ha hb hc hN hr hp hq w)
  have C2 := Lib.hid (fun w => reach_any h w)
  rw [decide_eq_true hh, show nearE true = 0 from rfl] at C2
  unfold Way at hh
  have r0 := hr.1
  have m1 : max (r - h) 0 = lo := by rw [← hlo]; split <;> omega
  have m2 : max 0 (r - h) = lo := by rw [← hlo]; split <;> omega
  have w1 : IntKind.i64.wrap (r - h) = r - h := by rw [IntKind.wrap_i64]; omega
  have w2 : IntKind.i64.wrap (r + h) = r + h := by rw [IntKind.wrap_i64]; omega
  clear ha hb hc hN hr hr4 hp hq hh hlo r0
  go_enter Try.func17, Try.ntmps17
  go_wp2_with (with_reducible refine G.any_mark _ ?_; (try generalize Array.size (World.heap (G.w _)) = bk); (try dsimp only [List.set_cons_zero, List.set_cons_succ]); (try clear g); intro g)
  refine (C1.out _).mono ?_
  rintro e w1 ⟨rfl, hb⟩
  obtain ⟨g1, rfl⟩ := G.call_ex _ hb
  clear hb
  (try clear g)
  revert g1
  intro g
  go_wp2_with (with_reducible refine G.any_mark _ ?_; (try generalize Array.size (World.heap (G.w _)) = bk); (try dsimp only [List.set_cons_zero, List.set_cons_succ]); (try clear g); intro g)
  refine (C2.out _).mono ?_
  rintro e w1 ⟨rfl, hb⟩
  obtain ⟨g1, rfl⟩ := G.call_ex _ hb
  clear hb
  (try clear g)
  revert g1
  intro g
  go_wp2_with (with_reducible refine G.any_mark _ ?_; (try generalize Array.size (World.heap (G.w _)) = bk); (try dsimp only [List.set_cons_zero, List.set_cons_succ]); (try clear g); intro g)
  refine bodyPost_ret (v := .tuple #[.int .i64 lo, .int .i64 (r + h), .int .i64 0]) (by simp [results, Try.f17, go_sem]) rfl ⟨rfl, G.below _⟩
set_option maxRecDepth 20000 in
theorem dspan_way (X Y Z U V W a b c N r h : Int) (ha : U - X = a) (hb : V - Y = b) (hc : W - Z = c) (hN : a * a + b * b + c * c = N) (hr : IsRoot r N) (hp : In3 100000000000 X Y Z) (hq : In3 100000000000 U V W) (hh : ¬ Way h) (w : World) :
    Calls Try.prog 17 #[.agg #[.int .i64 X, .int .i64 Y, .int .i64 Z], .agg #[.int .i64 U, .int .i64 V, .int .i64 W], .int .i64 h] w fun e w' => e = .returned (.tuple #[.int .i64 0, .int .i64 0, .int .i64 2]) ∧ Below w.heap.size w w' := by
  refine calls_b fun g => ?_
  have C1 := Lib.hid (fun w => drange_yes X Y Z U V W a b c N r ha hb hc hN hr hp hq w)
  have C2 := Lib.hid (fun w => reach_any h w)
  rw [decide_eq_false hh, show nearE false = 2 from rfl] at C2
  clear ha hb hc hN hr hp hq hh
  go_enter Try.func17, Try.ntmps17
  go_wp2_with (with_reducible refine G.any_mark _ ?_; (try generalize Array.size (World.heap (G.w _)) = bk); (try dsimp only [List.set_cons_zero, List.set_cons_succ]); (try clear g); intro g)
  refine (C1.out _).mono ?_
  rintro e w1 ⟨rfl, hb⟩
  obtain ⟨g1, rfl⟩ := G.call_ex _ hb
  clear hb
  (try clear g)
  revert g1
  intro g
  go_wp2_with (with_reducible refine G.any_mark _ ?_; (try generalize Array.size (World.heap (G.w _)) = bk); (try dsimp only [List.set_cons_zero, List.set_cons_succ]); (try clear g); intro g)
  refine (C2.out _).mono ?_
  rintro e w1 ⟨rfl, hb⟩
  obtain ⟨g1, rfl⟩ := G.call_ex _ hb
  clear hb
  (try clear g)
  revert g1
  intro g
  go_wp2_with (with_reducible refine G.any_mark _ ?_; (try generalize Array.size (World.heap (G.w _)) = bk); (try dsimp only [List.set_cons_zero, List.set_cons_succ]); (try clear g); intro g)
  refine bodyPost_ret (v := .tuple #[.int .i64 0, .int .i64 0, .int .i64 2]) (by simp [results, Try.f17, go_sem]) rfl ⟨rfl, G.below _⟩
set_option maxRecDepth 20000 in
theorem dspan_no (X Y Z U V W h : Int) (hn : ¬ (In3 100000000000 X Y Z ∧ In3 100000000000 U V W)) (w : World) :
    Calls Try.prog 17 #[.agg #[.int .i64 X, .int .i64 Y, .int .i64 Z], .agg #[.int .i64 U, .int .i64 V, .int .i64 W], .int .i64 h] w fun e w' => e = .returned (.tuple #[.int .i64 0, .int .i64 0, .int .i64 2]) ∧ Below w.heap.size w w' := by
  refine calls_b fun g => ?_
  have C1 := Lib.hid (fun w => drange_no X Y Z U V W hn w)
  clear hn
  go_enter Try.func17, Try.ntmps17
  go_wp2_with (with_reducible refine G.any_mark _ ?_; (try generalize Array.size (World.heap (G.w _)) = bk); (try dsimp only [List.set_cons_zero, List.set_cons_succ]); (try clear g); intro g)
  refine (C1.out _).mono ?_
  rintro e w1 ⟨rfl, hb⟩
  obtain ⟨g1, rfl⟩ := G.call_ex _ hb
  clear hb
  (try clear g)
  revert g1
  intro g
  go_wp2_with (with_reducible refine G.any_mark _ ?_; (try generalize Array.size (World.heap (G.w _)) = bk); (try dsimp only [List.set_cons_zero, List.set_cons_succ]); (try clear g); intro g)
  refine bodyPost_ret (v := .tuple #[.int .i64 0, .int .i64 0, .int .i64 2]) (by simp [results, Try.f17, go_sem]) rfl ⟨rfl, G.below _⟩
set_option maxRecDepth 20000 in
theorem rspan_yes (X Y Z U V W a b c N r h lo : Int) (ha : U - X = a) (hb : V - Y = b) (hc : W - Z = c) (hN : a * a + b * b + c * c = N) (hr : IsRoot r N) (hr4 : r ≤ 400000000000) (hp : In3 100000000000 X Y Z) (hq : In3 100000000000 U V W) (hh : Way h) (hlo : (if h ≤ r then r - h else 0) = lo) (w : World) :
    Calls Try.prog 26 #[.agg #[.int .i64 X, .int .i64 Y, .int .i64 Z], .agg #[.int .i64 U, .int .i64 V, .int .i64 W], .int .i64 h] w fun e w' => e = .returned (.tuple #[.int .i64 lo, .int .i64 (r + h), .int .i64 0]) ∧ Below w.heap.size w w' := by
  refine calls_b fun g => ?_
  have C1 := Lib.hid (fun w => rrange_yes X Y Z U V W a b c N r ha hb hc hN hr hp hq w)
  have C2 := Lib.hid (fun w => rreach_any h w)
  rw [decide_eq_true hh] at C2
  unfold Way at hh
  have r0 := hr.1
  have m1 : max (r - h) 0 = lo := by rw [← hlo]; split <;> omega
  have m2 : max 0 (r - h) = lo := by rw [← hlo]; split <;> omega
  have w1 : IntKind.i64.wrap (r - h) = r - h := by rw [IntKind.wrap_i64]; omega
  have w2 : IntKind.i64.wrap (r + h) = r + h := by rw [IntKind.wrap_i64]; omega
  clear ha hb hc hN hr hr4 hp hq hh hlo r0
  go_enter Try.func26, Try.ntmps26
  go_wp2_with (with_reducible refine G.any_mark _ ?_; (try generalize Array.size (World.heap (G.w _)) = bk); (try dsimp only [List.set_cons_zero, List.set_cons_succ]); (try clear g); intro g)
  refine (C1.out _).mono ?_
  rintro e w1 ⟨rfl, hb⟩
  obtain ⟨g1, rfl⟩ := G.call_ex _ hb
  clear hb
  (try clear g)
  revert g1
  intro g
  go_wp2_with (with_reducible refine G.any_mark _ ?_; (try generalize Array.size (World.heap (G.w _)) = bk); (try dsimp only [List.set_cons_zero, List.set_cons_succ]); (try clear g); intro g)
  refine (C2.out _).mono ?_
  rintro e w1 ⟨rfl, hb⟩
  obtain ⟨g1, rfl⟩ := G.call_ex _ hb
  clear hb
  (try clear g)
  revert g1
  intro g
  go_wp2_with (with_reducible refine G.any_mark _ ?_; (try generalize Array.size (World.heap (G.w _)) = bk); (try dsimp only [List.set_cons_zero, List.set_cons_succ]); (try clear g); intro g)
  refine bodyPost_ret (v := .tuple #[.int .i64 lo, .int .i64 (r + h), .int .i64 0]) (by simp [results, Try.f26, go_sem]) rfl ⟨rfl, G.below _⟩
set_option maxRecDepth 20000 in
theorem rspan_way (X Y Z U V W a b c N r h : Int) (ha : U - X = a) (hb : V - Y = b) (hc : W - Z = c) (hN : a * a + b * b + c * c = N) (hr : IsRoot r N) (hp : In3 100000000000 X Y Z) (hq : In3 100000000000 U V W) (hh : ¬ Way h) (w : World) :
    Calls Try.prog 26 #[.agg #[.int .i64 X, .int .i64 Y, .int .i64 Z], .agg #[.int .i64 U, .int .i64 V, .int .i64 W], .int .i64 h] w fun e w' => e = .returned (.tuple #[.int .i64 0, .int .i64 0, .int .i64 2]) ∧ Below w.heap.size w w' := by
  refine calls_b fun g => ?_
  have C1 := Lib.hid (fun w => rrange_yes X Y Z U V W a b c N r ha hb hc hN hr hp hq w)
  have C2 := Lib.hid (fun w => rreach_any h w)
  rw [decide_eq_false hh] at C2
  clear ha hb hc hN hr hp hq hh
  go_enter Try.func26, Try.ntmps26
  go_wp2_with (with_reducible refine G.any_mark _ ?_; (try generalize Array.size (World.heap (G.w _)) = bk); (try dsimp only [List.set_cons_zero, List.set_cons_succ]); (try clear g); intro g)
  refine (C1.out _).mono ?_
  rintro e w1 ⟨rfl, hb⟩
  obtain ⟨g1, rfl⟩ := G.call_ex _ hb
  clear hb
  (try clear g)
  revert g1
  intro g
  go_wp2_with (with_reducible refine G.any_mark _ ?_; (try generalize Array.size (World.heap (G.w _)) = bk); (try dsimp only [List.set_cons_zero, List.set_cons_succ]); (try clear g); intro g)
  refine (C2.out _).mono ?_
  rintro e w1 ⟨rfl, hb⟩
  obtain ⟨g1, rfl⟩ := G.call_ex _ hb
  clear hb
  (try clear g)
  revert g1
  intro g
  go_wp2_with (with_reducible refine G.any_mark _ ?_; (try generalize Array.size (World.heap (G.w _)) = bk); (try dsimp only [List.set_cons_zero, List.set_cons_succ]); (try clear g); intro g)
  refine bodyPost_ret (v := .tuple #[.int .i64 0, .int .i64 0, .int .i64 2]) (by simp [results, Try.f26, go_sem]) rfl ⟨rfl, G.below _⟩
set_option maxRecDepth 20000 in
theorem rspan_no (X Y Z U V W h : Int) (hn : ¬ (In3 100000000000 X Y Z ∧ In3 100000000000 U V W)) (w : World) :
    Calls Try.prog 26 #[.agg #[.int .i64 X, .int .i64 Y, .int .i64 Z], .agg #[.int .i64 U, .int .i64 V, .int .i64 W], .int .i64 h] w fun e w' => e = .returned (.tuple #[.int .i64 0, .int .i64 0, .int .i64 2]) ∧ Below w.heap.size w w' := by
  refine calls_b fun g => ?_
  have C1 := Lib.hid (fun w => rrange_no X Y Z U V W hn w)
  clear hn
  go_enter Try.func26, Try.ntmps26
  go_wp2_with (with_reducible refine G.any_mark _ ?_; (try generalize Array.size (World.heap (G.w _)) = bk); (try dsimp only [List.set_cons_zero, List.set_cons_succ]); (try clear g); intro g)
  refine (C1.out _).mono ?_
  rintro e w1 ⟨rfl, hb⟩
  obtain ⟨g1, rfl⟩ := G.call_ex _ hb
  clear hb
  (try clear g)
  revert g1
  intro g
  go_wp2_with (with_reducible refine G.any_mark _ ?_; (try generalize Array.size (World.heap (G.w _)) = bk); (try dsimp only [List.set_cons_zero, List.set_cons_succ]); (try clear g); intro g)
  refine bodyPost_ret (v := .tuple #[.int .i64 0, .int .i64 0, .int .i64 2]) (by simp [results, Try.f26, go_sem]) rfl ⟨rfl, G.below _⟩
end Go.Proofs.Ytodigegjngnknaa
