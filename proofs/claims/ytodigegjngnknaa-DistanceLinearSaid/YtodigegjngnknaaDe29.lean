/- Plain facts and contracts of functions of the program, out of walks. Their conditions stand ahead of each. -/
import Derived.Test.YtodigegjngnknaaDe1
import Derived.Test.YtodigegjngnknaaDe14
import Derived.Test.YtodigegjngnknaaDe16
import Derived.Test.YtodigegjngnknaaDe20
import Derived.Test.YtodigegjngnknaaDe25
import Derived.Below
import Derived.BigQuiet
import Derived.Deep.DeepCutAuto
import Derived.Deep.Draws
import Derived.Deep.QuietTactic
import Derived.Deep.RegionHeld3
import Derived.Deep.WholeRow
import Derived.Great.BuildSlice
import Derived.Laws.Bits128
import Derived.Laws.BitsLemmas
import Derived.Laws.Externs
import Derived.Laws.NewBlocks
import Derived.Laws.OwnMore
import Derived.Laws.Pointers
import Derived.Laws.Rows
import Derived.Lib.BitFns
import Derived.Lib.Hide
import Derived.Lib.ItoaNum
import Derived.LoopIn
import Derived.LoopNIn
import Derived.OrdersIn
import Derived.OwnWalkIn
import Derived.RangeFuncBound
import Derived.RangeFuncBox
import Derived.RangeFuncCalls
import Derived.RangeFuncLeaves
import Derived.RangeFuncNested
import Derived.RowKit3
import Derived.Shelf.Abstract
import Derived.Shelf.RegionOpen
import Derived.StillTactics
import Derived.StillTailTactics
import Derived.TacticsInMore
import Derived.Test.YtodigegjngnknaaProg
import Derived.WalkKit
import Derived.WalkLawsBesides
import Derived.WalkSpells
set_option linter.unusedVariables false
set_option linter.unusedSimpArgs false
set_option exponentiation.threshold 10000
namespace Go.Proofs.Ytodigegjngnknaa
open Go.RowKit GW NL Go.Proofs.Ytodigegjngnknaa.X
/-- the words of a wide number -/
def wh (P : Int) : Int := P / 18446744073709551616
def wl (P : Int) : Int := P % 18446744073709551616
theorem wide_ok {P : Int} (h : -1000000000000000000000000 ≤ P ∧ P ≤ 1000000000000000000000000) : Fx.R64 (wh P) ∧ Fx.U64 (wl P) ∧ Fx.wd (wh P) (wl P) = P ∧ Fx.ovE P = 0 ∧ Fx.ovH P = wh P ∧ Fx.ovL P = wl P := by
  obtain ⟨h1, h2⟩ := h
  obtain ⟨a, b, c⟩ := Fx.ov_yes (s := P) ⟨by omega, by omega⟩
  refine ⟨?_, ?_, ?_, a, b, c⟩
  · unfold Fx.R64 wh; omega
  · unfold Fx.U64 wl; omega
  · unfold Fx.wd wh wl; omega
theorem rprodW (a b P : Int) (ha : Fx.R64 a) (hb : Fx.R64 b) (hP : a * b = P) (w : World) :
    Calls Try.prog 15 #[.int .i64 a, .int .i64 b] w fun e w' => e = .returned (.agg #[.int .i64 (wh P), .int .u64 (wl P)]) ∧ Below w.heap.size w w' := by
  have := rprod_w a b (wh P) (wl P) ha hb (by rw [hP]; rfl) (by rw [hP]; rfl) w
  exact this
theorem rplusW (P Q S : Int) (hP : -300000000000000000000000 ≤ P ∧ P ≤ 300000000000000000000000) (hQ : -300000000000000000000000 ≤ Q ∧ Q ≤ 300000000000000000000000) (hS : P + Q = S) (w : World) :
    Calls Try.prog 38 #[.agg #[.int .i64 (wh P), .int .u64 (wl P)], .agg #[.int .i64 (wh Q), .int .u64 (wl Q)]] w fun e w' => e = .returned (.tuple #[.agg #[.int .i64 (wh S), .int .u64 (wl S)], .int .i64 0]) ∧ Below w.heap.size w w' := by
  obtain ⟨a1, a2, a3, _, _, _⟩ := wide_ok (P := P) (by omega)
  obtain ⟨b1, b2, b3, _, _, _⟩ := wide_ok (P := Q) (by omega)
  obtain ⟨_, _, _, c1, c2, c3⟩ := wide_ok (P := S) (by omega)
  exact rPlus_w (wh P) (wl P) (wh Q) (wl Q) (wh S) (wl S) 0 S a1 a2 b1 b2 (by rw [a3, b3, hS]) c2 c3 c1 w
theorem rminusW (P S : Int) (hP : -300000000000000000000000 ≤ P ∧ P ≤ 300000000000000000000000) (hS : -P = S) (w : World) :
    Calls Try.prog 65 #[.agg #[.int .i64 0, .int .u64 0], .agg #[.int .i64 (wh P), .int .u64 (wl P)]] w fun e w' => e = .returned (.tuple #[.agg #[.int .i64 (wh S), .int .u64 (wl S)], .int .i64 0]) ∧ Below w.heap.size w w' := by
  obtain ⟨a1, a2, a3, _, _, _⟩ := wide_ok (P := P) (by omega)
  obtain ⟨_, _, _, c1, c2, c3⟩ := wide_ok (P := S) (by omega)
  have := rMinus_any 0 0 (wh P) (wl P) (by unfold Fx.R64; omega) (by unfold Fx.U64; omega) a1 a2 w
  rw [a3, show Fx.wd 0 0 - P = S by unfold Fx.wd; omega, c1, c2, c3] at this
  exact this
theorem wh_neg (S : Int) : wh S < 0 ↔ S < 0 := by unfold wh; omega
/-- what the reference makes of the sum -/
theorem ralong_end (S T : Int) (hS : -300000000000000000000000 ≤ S ∧ S ≤ 300000000000000000000000) (hT : (if S < 0 then -S else S) + 536870912 = T) :
    ∃ a b : Int, IntKind.i64.wrap (wh T * 17179869184) = a ∧ wl T / 1073741824 = b ∧ IntKind.u64.wrap b = b ∧ IntKind.i64.wrap b = b ∧ IntKind.i64.wrap (a + b) = (if S < 0 then -S + 536870912 else S + 536870912) / 1073741824 ∧ IntKind.i64.wrap (-((if S < 0 then -S + 536870912 else S + 536870912) / 1073741824)) = -((if S < 0 then -S + 536870912 else S + 536870912) / 1073741824) := by
  refine ⟨wh T * 17179869184, wl T / 1073741824, ?_, rfl, ?_, ?_, ?_, ?_⟩
  · rw [IntKind.wrap_i64]; unfold wh; split at hT <;> omega
  · rw [IntKind.wrap_u64]; unfold wl; omega
  · rw [IntKind.wrap_i64]; unfold wl; omega
  · rw [IntKind.wrap_i64]; unfold wh wl; split <;> rename_i h <;> simp only [h, if_true, if_false] at hT <;> omega
  · rw [IntKind.wrap_i64]; split <;> omega
end Go.Proofs.Ytodigegjngnknaa
namespace Go.Proofs.Ytodigegjngnknaa
open Go.RowKit GW NL Go.Proofs.Ytodigegjngnknaa.X
theorem pick_m (m x : Int) (hm : 0 < m) (hm2 : m ≤ 4611686018427387904) (h1 : -9223372036854775808 ≤ x) (h2 : x < 9223372036854775808) (w : World) : Calls Try.prog 16 #[.int .i64 x, .int .i64 m] w fun e w' => ∃ k : Nat, (k : Int) < m ∧ e = .returned (.int .i64 k) ∧ Below w.heap.size w w' := by
  obtain ⟨T, hT⟩ : ∃ T, Int.tmod x m = T := ⟨_, rfl⟩
  have b1 : T < m := by rw [← hT]; exact Int.tmod_lt_of_pos _ hm
  have b2 : -m < T := by rw [← hT]; exact Int.lt_tmod_of_pos x hm
  have hm0 : (m == 0) = false := by rw [beq_eq_false_iff_ne]; omega
  have hw2 : IntKind.i64.wrap T = T := by rw [IntKind.wrap_i64]; omega
  have H2 := Lib.hid hm2
  have H0 := Lib.hid hm
  clear h1 h2 hm2 hm
  by_cases h0 : T < 0
  · obtain ⟨k, hk⟩ : ∃ k : Nat, T + m = (k : Int) := ⟨(T + m).toNat, by have := H0.out; omega⟩
    have hw : IntKind.i64.wrap (k : Int) = (k : Int) := by rw [IntKind.wrap_i64]; have := H2.out; omega
    have HB := Lib.hid (And.intro b1 (And.intro b2 hk))
    clear b1 b2
    go_enter Try.func16, Try.ntmps16
    go_wp2_with fail
    go_ret
    exact ⟨k, by have := HB.out; omega, rfl, Below.refl _ _⟩
  · obtain ⟨k, rfl⟩ : ∃ k : Nat, T = (k : Int) := ⟨T.toNat, by omega⟩
    have HB := Lib.hid b1
    clear b1 b2 h0
    go_enter Try.func16, Try.ntmps16
    go_wp2_with fail
    all_goals first | (exfalso; have := H0.out; omega) | (go_ret; exact ⟨k, HB.out, rfl, Below.refl _ _⟩)
def I64 (x : Int) : Prop := -9223372036854775808 ≤ x ∧ x < 9223372036854775808
set_option maxRecDepth 20000 in
theorem lnear_any (x y z : Int) (hx : I64 x) (hy : I64 y) (hz : I64 z) (w : World) :
    Calls Try.prog 10 #[.int .i64 x, .int .i64 y, .int .i64 z] w fun e w' => ∃ X Y Z : Int, In3 100000000000 X Y Z ∧ e = .returned (.agg #[.int .i64 X, .int .i64 Y, .int .i64 Z]) ∧ Below w.heap.size w w' := by
  refine calls_b fun g => ?_
  have C1 := Lib.hid (fun w => pick_m 200000000001 x (by decide) (by decide) hx.1 hx.2 w)
  have C2 := Lib.hid (fun w => pick_m 200000000001 y (by decide) (by decide) hy.1 hy.2 w)
  have C3 := Lib.hid (fun w => pick_m 200000000001 z (by decide) (by decide) hz.1 hz.2 w)
  clear hx hy hz
  go_enter Try.func10, Try.ntmps10
  go_wp2_with (with_reducible refine G.any_mark _ ?_; (try generalize Array.size (World.heap (G.w _)) = bk); (try dsimp only [List.set_cons_zero, List.set_cons_succ]); (try clear g); intro g)
  refine (C1.out _).mono ?_
  rintro e w1 ⟨k1, h1, rfl, hb⟩
  obtain ⟨g1, rfl⟩ := G.call_ex _ hb
  clear hb
  (try clear g)
  revert g1
  intro g
  go_wp2_with (with_reducible refine G.any_mark _ ?_; (try generalize Array.size (World.heap (G.w _)) = bk); (try dsimp only [List.set_cons_zero, List.set_cons_succ]); (try clear g); intro g)
  refine (C2.out _).mono ?_
  rintro e w1 ⟨k2, h2, rfl, hb⟩
  obtain ⟨g1, rfl⟩ := G.call_ex _ hb
  clear hb
  (try clear g)
  revert g1
  intro g
  go_wp2_with (with_reducible refine G.any_mark _ ?_; (try generalize Array.size (World.heap (G.w _)) = bk); (try dsimp only [List.set_cons_zero, List.set_cons_succ]); (try clear g); intro g)
  refine (C3.out _).mono ?_
  rintro e w1 ⟨k3, h3, rfl, hb⟩
  obtain ⟨g1, rfl⟩ := G.call_ex _ hb
  clear hb
  (try clear g)
  revert g1
  intro g
  have e1 : IntKind.i64.wrap ((k1 : Int) - 100000000000) = (k1 : Int) - 100000000000 := by rw [IntKind.wrap_i64]; omega
  have e2 : IntKind.i64.wrap ((k2 : Int) - 100000000000) = (k2 : Int) - 100000000000 := by rw [IntKind.wrap_i64]; omega
  have e3 : IntKind.i64.wrap ((k3 : Int) - 100000000000) = (k3 : Int) - 100000000000 := by rw [IntKind.wrap_i64]; omega
  go_wp2_with (with_reducible refine G.any_mark _ ?_; (try generalize Array.size (World.heap (G.w _)) = bk); (try dsimp only [List.set_cons_zero, List.set_cons_succ]); (try clear g); intro g)
  refine bodyPost_ret (v := .agg #[.int .i64 ((k1 : Int) - 100000000000), .int .i64 ((k2 : Int) - 100000000000), .int .i64 ((k3 : Int) - 100000000000)]) (by simp [results, Try.results10, go_sem]) rfl ⟨_, _, _, by unfold In3 In; omega, rfl, G.below _⟩
def cmpI (P Q : Int) : Int := if P < Q then -1 else if P = Q then 0 else 1
theorem rcmpW (P Q : Int) (w : World) :
    Calls Try.prog 14 #[.agg #[.int .i64 (wh P), .int .u64 (wl P)], .agg #[.int .i64 (wh Q), .int .u64 (wl Q)]] w fun e w' => e = .returned (.int .i64 (cmpI P Q)) ∧ Below w.heap.size w w' := by
  have := X.rCmp_any (wh P) (wl P) (wh Q) (wl Q) w
  have e : orV (sg (wh P) (wh Q)) (sg (wl P) (wl Q)) = cmpI P Q := by
    unfold orV sg wh wl cmpI
    repeat' split
    all_goals omega
  rw [e] at this
  exact this
theorem rnormW (x y z N : Int) (hx : -100000000000000 ≤ x ∧ x ≤ 100000000000000) (hy : -100000000000000 ≤ y ∧ y ≤ 100000000000000) (hz : -100000000000000 ≤ z ∧ z ≤ 100000000000000) (hN : x * x + y * y + z * z = N) (w : World) :
    Calls Try.prog 13 #[.agg #[.int .i64 x, .int .i64 y, .int .i64 z]] w fun e w' => e = .returned (.tuple #[.agg #[.int .i64 (wh N), .int .u64 (wl N)], .int .i64 0]) ∧ Below w.heap.size w w' := by
  have h1 := sq_bd hx
  have h2 := sq_bd hy
  have h3 := sq_bd hz
  have := rNorm_any x y z (by unfold Fx.R64; omega) (by unfold Fx.R64; omega) (by unfold Fx.R64; omega) w
  rw [hN] at this
  obtain ⟨a, b, c⟩ := Fx.ov_yes (s := N) ⟨by omega, by omega⟩
  rw [a, b, c] at this
  exact this
end Go.Proofs.Ytodigegjngnknaa
