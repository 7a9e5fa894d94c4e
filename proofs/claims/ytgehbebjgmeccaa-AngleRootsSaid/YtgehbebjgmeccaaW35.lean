/- Contracts of functions of the program and of its reference, out of walks. Their conditions stand ahead of each. -/
import Derived.Test.YtgehbebjgmeccaaW34
set_option linter.unusedVariables false
set_option linter.unusedSimpArgs false
namespace Go.Proofs.Ytgehbebjgmeccaa
open Go.RowKit
theorem rRoot_any (n : Int) (h : 0 ≤ n) (h' : n ≤ 9223372036854775807) (w : World) :
    Calls Try.prog 53 #[.int .i64 n] w fun e w' => ∃ r : Int, IsRoot r n ∧ e = .returned (.tuple #[.int .i64 r, .int .i64 0]) ∧ Below w.heap.size w w' := by
  have hr := fun w => rRootWide_any 0 n (by omega) (by omega) h (by omega) w
  rw [show (0 : Int) * 18446744073709551616 + n = n from by omega] at hr
  have HR := Lib.hid hr
  clear hr
  have hd : decide (n < 0) = false := by simp; omega
  go_enter Try.func53, Try.ntmps53
  go_wp2_with fail
  refine (HR.out _).mono ?_
  rintro e w1 ⟨r, hr, rfl, hb⟩
  have HRR := Lib.hid hr
  clear hr
  go_wp2_with fail
  go_ret2
  exact ⟨r, HRR.out, rfl, hb⟩
/-- What Root and its reference return, each time. -/
def rootPair (f g : Nat) (args : Array Value) : Prop := ∃ r e : Int, ∀ w : World,
  Calls Try.prog f args w (fun x w' => x = .returned (.tuple #[.int .i64 r, .int .i64 e]) ∧ Below w.heap.size w w') ∧
  Calls Try.prog g args w (fun x w' => x = .returned (.tuple #[.int .i64 r, .int .i64 e]) ∧ Below w.heap.size w w')
theorem isRoot_ex (N : Int) (h : 0 ≤ N) (h' : N < 85070591730234615865843651857942052864) : ∃ r, IsRoot r N := by
  have key : ∀ (e : Nat) (r : Int), Rt e r N → ∃ s, IsRoot s N := by
    intro e
    induction e with
    | zero => intro r h; exact ⟨r, rt_end h⟩
    | succ e ih =>
      intro r h
      by_cases k : N < (r + (2 : Int) ^ e) * (r + (2 : Int) ^ e)
      · exact ih r (rt_no h k)
      · exact ih _ (rt_yes h k)
  exact key 63 0 (rt_start N h h')
theorem root_pair (n : Int) (h : -9223372036854775808 ≤ n) (h' : n ≤ 9223372036854775807) : rootPair 52 53 #[.int .i64 n] := by
  by_cases g : n < 0
  · exact ⟨0, 2, fun w => ⟨Root_neg n g w, rRoot_neg n g w⟩⟩
  · obtain ⟨r, hr⟩ := isRoot_ex n (by omega) (by omega)
    refine ⟨r, 0, fun w => ⟨(Root_any n (by omega) h' w).mono ?_, (rRoot_any n (by omega) h' w).mono ?_⟩⟩
    all_goals
      rintro e w' ⟨s, hs, rfl, hb⟩
      obtain rfl := root_uniq hs hr
      exact ⟨rfl, hb⟩
theorem wide_pair (hi lo : Int) (l0 : 0 ≤ lo) (l1 : lo < 18446744073709551616) : rootPair 54 55 #[.agg #[.int .i64 hi, .int .u64 lo]] := by
  by_cases g : hi < 0
  · exact ⟨0, 2, fun w => ⟨RootWide_neg hi lo g w, rRootWide_neg hi lo g w⟩⟩
  by_cases g' : 4611686018427387904 ≤ hi
  · exact ⟨0, 5, fun w => ⟨RootWide_over hi lo g' w, rRootWide_over hi lo g' w⟩⟩
  · obtain ⟨r, hr⟩ := isRoot_ex (hi * 18446744073709551616 + lo) (by omega) (by omega)
    refine ⟨r, 0, fun w => ⟨(RootWide_any hi lo (by omega) (by omega) l0 l1 w).mono ?_, (rRootWide_any hi lo (by omega) (by omega) l0 l1 w).mono ?_⟩⟩
    all_goals
      rintro e w' ⟨s, hs, rfl, hb⟩
      obtain rfl := root_uniq hs hr
      exact ⟨rfl, hb⟩
theorem roots_walk (n hi lo : Int) (h : -9223372036854775808 ≤ n) (h' : n ≤ 9223372036854775807) (l0 : 0 ≤ lo) (l1 : lo < 18446744073709551616) (w : World) :
    Calls Try.prog 10 #[.int .i64 n, .agg #[.int .i64 hi, .int .u64 lo]] w fun e w' => e = .returned (.bool true) ∧ Below w.heap.size w w' := by
  obtain ⟨r, e1, hp⟩ := root_pair n h h'
  obtain ⟨s, e2, hq⟩ := wide_pair hi lo l0 l1
  have HP := Lib.hid hp
  have HQ := Lib.hid hq
  clear hp hq h h' l0 l1
  go_enter Try.func10, Try.ntmps10
  go_wp2_with fail
  refine (HP.out _).1.mono ?_
  rintro e w1 ⟨rfl, hb⟩
  obtain ⟨c1, f1, z1⟩ := step2 (b := w.heap.size) hb (by simp)
  have r10 := (c1 0).trans (show _ = some (.int .i64 hi) by simp [go_sem])
  have r11 := (c1 1).trans (show _ = some (.int .u64 lo) by simp [go_sem])
  have HB1 := Lib.hid (((Below.refl w.heap.size w).alloc (Nat.le_refl _) (.cells #[.int .i64 hi, .int .u64 lo] 62)).trans (hb.mono (by simp)))
  clear hb c1 f1
  go_wp2_with fail
  refine (HP.out _).2.mono ?_
  rintro e w2 ⟨rfl, hb⟩
  have r20 := (hb.cell (p := ⟨w.heap.size, 0, none⟩) z1).trans r10
  have r21 := (hb.cell (p := ⟨w.heap.size, 1, none⟩) z1).trans r11
  have z2 : w.heap.size < w2.heap.size := Nat.lt_of_lt_of_le z1 hb.size
  have HB2 := Lib.hid (HB1.out.trans (hb.mono HB1.out.size))
  clear hb r10 r11
  go_wp2_with fail
  refine (HQ.out _).1.mono ?_
  rintro e w3 ⟨rfl, hb⟩
  have r30 := (hb.cell (p := ⟨w.heap.size, 0, none⟩) z2).trans r20
  have r31 := (hb.cell (p := ⟨w.heap.size, 1, none⟩) z2).trans r21
  have z3 : w.heap.size < w3.heap.size := Nat.lt_of_lt_of_le z2 hb.size
  have HB3 := Lib.hid (HB2.out.trans (hb.mono HB2.out.size))
  clear hb r20 r21
  go_wp2_with fail
  refine (HQ.out _).2.mono ?_
  rintro e w4 ⟨rfl, hb⟩
  have r40 := (hb.cell (p := ⟨w.heap.size, 0, none⟩) z3).trans r30
  have r41 := (hb.cell (p := ⟨w.heap.size, 1, none⟩) z3).trans r31
  have z4 : w.heap.size < w4.heap.size := Nat.lt_of_lt_of_le z3 hb.size
  have HB4 := Lib.hid (HB3.out.trans (hb.mono HB3.out.size))
  clear hb r30 r31
  go_wp2_with fail
  refine (lives_any _).mono ?_
  rintro e w5 ⟨rfl, hb⟩
  have HB5 := Lib.hid (HB4.out.trans (hb.mono HB4.out.size))
  clear hb
  go_wp2_with fail
  all_goals go_ret
  all_goals exact ⟨by simp, HB5.out⟩
end Go.Proofs.Ytgehbebjgmeccaa
