/- Plain facts and contracts of functions of the program, out of walks. Their conditions stand ahead of each. -/
import Derived.Test.YtodigegjngnknaaDe2
import Derived.Test.YtodigegjngnknaaDe5
import Derived.Test.YtodigegjngnknaaDe12
import Derived.BigQuiet
import Derived.Deep.QuietTactic
import Derived.Deep.RegionHeld3
import Derived.Deep.WholeRow
import Derived.Great.BuildSlice
import Derived.Laws.Bits128
import Derived.Laws.BitsLemmas
import Derived.Laws.Externs
import Derived.Laws.Pointers
import Derived.Lib.Hide
import Derived.RowKit3
import Derived.StillTactics
import Derived.StillTailTactics
import Derived.Test.YtodigegjngnknaaProg
import Derived.WalkKit
import Derived.WalkLawsBesides
import Derived.WalkSpells
set_option linter.unusedVariables false
set_option linter.unusedSimpArgs false
namespace Go.Proofs.Ytodigegjngnknaa.X
open Go.RowKit
theorem mul64_any (x y : Int) (hx : 0 ≤ x ∧ x < 18446744073709551616) (hy : 0 ≤ y ∧ y < 18446744073709551616) (w : World) :
    Calls Try.prog 39 #[.int .u64 x, .int .u64 y] w fun e w' => e = .returned (.tuple #[.int .u64 (x * y / 18446744073709551616), .int .u64 (x * y % 18446744073709551616)]) ∧ w = w' := by
  obtain ⟨hx0, hx1⟩ := hx
  obtain ⟨hy0, hy1⟩ := hy
  go_enter Try.func39, Try.ntmps39
  go_wp2_with fail
  simp only [K.u64and32 x hx0 hx1, K.u64and32 y hy0 hy1, IntKind.wrap_u64]
  have e1 : ∀ z : Int, bits BinOp.and IntKind.u64 (z % 18446744073709551616) 4294967295 = z % 18446744073709551616 % 4294967296 := fun z => K.u64and32 _ (by omega) (by omega)
  simp only [e1]
  have hh := K.mul_hi x y ⟨hx0, hx1⟩ ⟨hy0, hy1⟩
  simp only at hh
  rw [hh]
  go_ret2
  exact ⟨rfl, rfl⟩
def az (a : Int) : Int := if a < 0 then -a else a
theorem az_bd (a : Int) (h : -9223372036854775808 ≤ a) (h' : a ≤ 9223372036854775807) : 0 ≤ az a ∧ az a ≤ 9223372036854775808 := by unfold az; split <;> omega
theorem ret_u64 {a b : Int} (h : a = b) : Ending.returned (.int .u64 a) = .returned (.int .u64 b) := by rw [h]
theorem size_any (a : Int) (h : -9223372036854775808 ≤ a) (h' : a ≤ 9223372036854775807) (w : World) :
    Calls Try.prog 97 #[.int .i64 a] w fun e w' => e = .returned (.int .u64 (az a)) ∧ w = w' := by
  by_cases g : a < 0
  · go_enter Try.func97, Try.ntmps97
    go_wp2_with fail
    go_ret
    exact ⟨ret_u64 (by unfold az; rw [if_pos g]; simp only [IntKind.wrap_u64]; omega), rfl⟩
  · go_enter Try.func97, Try.ntmps97
    go_wp2_with fail
    go_ret
    exact ⟨ret_u64 (by unfold az; rw [if_neg (by omega)]), rfl⟩
theorem times_any (x y : Int) (hx : 0 ≤ x ∧ x < 18446744073709551616) (hy : 0 ≤ y ∧ y < 18446744073709551616) (w : World) :
    Calls Try.prog 96 #[.int .u64 x, .int .u64 y] w fun e w' => e = .returned (.agg #[.int .u64 (x * y / 18446744073709551616), .int .u64 (x * y % 18446744073709551616)]) ∧ Below w.heap.size w w' := by
  go_enter Try.func96, Try.ntmps96
  go_wp2_with fail
  refine (mul64_any x y hx hy _).mono ?_
  rintro e w1 ⟨rfl, rfl⟩
  go_wp2_with fail
  refine bodyPost_ret (v := .agg #[.int .u64 (x * y / 18446744073709551616), .int .u64 (x * y % 18446744073709551616)]) (by simp [results, Try.results96, go_sem]) rfl ⟨rfl, ?_⟩
  exact (Below.refl _ _).alloc (Nat.le_refl _) _
theorem add64 (x y c : Int) (hx : 0 ≤ x) (hy : 0 ≤ y) (hc0 : 0 ≤ c) (hc : c ≤ 1) (w : World) : (callFunc 71 #[.int .u64 x, .int .u64 y, .int .u64 c]).run Try.prog w =
    .ok (.value (.tuple #[.int .u64 ((x + y + c) % 18446744073709551616), .int .u64 ((x + y + c) / 18446744073709551616)])) w := by
  rw [run_callFunc_extern Try.func71 (by kernel_rfl) (by kernel_rfl) (by kernel_rfl) (e := add64Entry) (by kernel_rfl), run_add64 x y c hx hy hc0 hc]
  rfl
theorem add64_0 (x y : Int) (hx : 0 ≤ x) (hy : 0 ≤ y) (w : World) : (callFunc 71 #[.int .u64 x, .int .u64 y, .int .u64 0]).run Try.prog w =
    .ok (.value (.tuple #[.int .u64 ((x + y) % 18446744073709551616), .int .u64 ((x + y) / 18446744073709551616)])) w := by
  simpa using add64 x y 0 hx hy (Int.le_refl 0) (by decide) w
theorem plus1_any (hi lo x : Int) (l0 : 0 ≤ lo) (x0 : 0 ≤ x) (w : World) :
    Calls Try.prog 98 #[.agg #[.int .u64 hi, .int .u64 lo], .int .u64 x] w fun e w' => e = .returned (.agg #[.int .u64 ((hi + (lo + x) / 18446744073709551616) % 18446744073709551616), .int .u64 ((lo + x) % 18446744073709551616)]) ∧ Below w.heap.size w w' := by
  have a0 := fun w => add64_0 lo x l0 x0 w
  have A0 := Lib.hid a0
  clear a0
  generalize hq : (lo + x) / 18446744073709551616 = q at *
  generalize hr : (lo + x) % 18446744073709551616 = r at *
  have e : IntKind.u64.wrap (hi + q) = (hi + q) % 18446744073709551616 := IntKind.wrap_u64 _
  generalize hs : (hi + q) % 18446744073709551616 = s at *
  clear hq hr hs
  go_enter Try.func98, Try.ntmps98
  go_wp2_with (simp only [A0.out])
  refine bodyPost_ret (v := .agg #[.int .u64 s, .int .u64 r]) (by simp [results, Try.results98, go_sem]) rfl ⟨rfl, ?_⟩
  exact ((Below.refl _ _).alloc (Nat.le_refl _) _).alloc (by simp) _
theorem prod_plain (a b : Int) (ha : -9223372036854775808 ≤ a ∧ a ≤ 9223372036854775807) (hb : -9223372036854775808 ≤ b ∧ b ≤ 9223372036854775807) :
    (¬ ((a < 0) ↔ (b < 0)) → az a * az b = -(a * b) ∧ 0 ≤ -(a * b)) ∧ (((a < 0) ↔ (b < 0)) → az a * az b = a * b ∧ 0 ≤ a * b) ∧ 0 ≤ az a * az b ∧ az a * az b ≤ 85070591730234615865843651857942052864 := by
  have h1 := az_bd a ha.1 ha.2
  have h2 := az_bd b hb.1 hb.2
  have p0 := Int.mul_nonneg h1.1 h2.1
  have p1 := Int.mul_le_mul h1.2 h2.2 h2.1 (by omega)
  refine ⟨?_, ?_, p0, by simpa using p1⟩
  · intro h
    have e : az a * az b = -(a * b) := by
      unfold az
      by_cases g : a < 0 <;> by_cases g' : b < 0 <;> simp [g, g', Int.neg_mul, Int.mul_neg, Int.neg_neg] at h ⊢
    exact ⟨e, by omega⟩
  · intro h
    have e : az a * az b = a * b := by
      unfold az
      by_cases g : a < 0 <;> by_cases g' : b < 0 <;> simp [g, g', Int.neg_mul, Int.mul_neg, Int.neg_neg] at h ⊢
    exact ⟨e, by omega⟩
theorem neg_plain (p : Int) (h : 0 ≤ -p) (h' : -p ≤ 85070591730234615865843651857942052864) :
    0 ≤ -p / 18446744073709551616 ∧ -p / 18446744073709551616 ≤ 4611686018427387904 ∧ 0 ≤ -p % 18446744073709551616 ∧ -p % 18446744073709551616 < 18446744073709551616 := by omega
theorem neg_wide (p H L : Int) (hH : -p / 18446744073709551616 = H) (hL : -p % 18446744073709551616 = L) (h : 0 ≤ -p) (h' : -p ≤ 85070591730234615865843651857942052864) :
    0 ≤ (18446744073709551615 - H + (18446744073709551615 - L + 1) / 18446744073709551616) % 18446744073709551616 ∧
    (18446744073709551615 - H + (18446744073709551615 - L + 1) / 18446744073709551616) % 18446744073709551616 < 18446744073709551616 ∧
    0 ≤ (18446744073709551615 - L + 1) % 18446744073709551616 ∧ (18446744073709551615 - L + 1) % 18446744073709551616 < 18446744073709551616 ∧
    p / 18446744073709551616 = wrap64 ((18446744073709551615 - H + (18446744073709551615 - L + 1) / 18446744073709551616) % 18446744073709551616) ∧
    p % 18446744073709551616 = (18446744073709551615 - L + 1) % 18446744073709551616 := by
  unfold wrap64; omega
theorem prod_any (a b : Int) (ha : -9223372036854775808 ≤ a ∧ a ≤ 9223372036854775807) (hb : -9223372036854775808 ≤ b ∧ b ≤ 9223372036854775807) (w : World) :
    Calls Try.prog 67 #[.int .i64 a, .int .i64 b] w fun e w' => e = .returned (.agg #[.int .i64 (a * b / 18446744073709551616), .int .u64 (a * b % 18446744073709551616)]) ∧ Below w.heap.size w w' := by
  obtain ⟨P1, P2, p0, p1⟩ := prod_plain a b ha hb
  have A := az_bd a ha.1 ha.2
  have B := az_bd b hb.1 hb.2
  have AZ := Lib.hid A
  have BZ := Lib.hid B
  clear A B
  obtain ⟨ha0, ha1⟩ := ha
  obtain ⟨hb0, hb1⟩ := hb
  have PP1 := Lib.hid P1
  have PP2 := Lib.hid P2
  clear P1 P2
  by_cases g : a < 0 <;> by_cases g' : b < 0
  · have hp := PP2.out (by omega)
    have tA : decide (a < 0) = true := by simpa using g
    have tB : decide (b < 0) = true := by simpa using g'
    clear g g'
    go_enter Try.func67, Try.ntmps67
    go_wp2_with fail
    refine (size_any a ha0 ha1 _).mono ?_
    rintro e w1 ⟨rfl, rfl⟩
    go_wp2_with fail
    refine (size_any b hb0 hb1 _).mono ?_
    rintro e w1 ⟨rfl, rfl⟩
    go_wp2_with fail
    refine (times_any _ _ ⟨AZ.out.1, by have := AZ.out.2; omega⟩ ⟨BZ.out.1, by have := BZ.out.2; omega⟩ _).mono ?_
    rintro e w1 ⟨rfl, hb⟩
    obtain ⟨c1, f1, z1⟩ := step2 (b := w.heap.size) hb (by simp)
    have r0 := (c1 0).trans (show _ = some (.int .i64 0) by simp [go_sem])
    have r1 := (c1 1).trans (show _ = some (.int .u64 0) by simp [go_sem])
    have s0 := (f1 0).trans (show _ = false by simp [go_sem])
    have s1 := (f1 1).trans (show _ = false by simp [go_sem])
    have HB := Lib.hid (((Below.refl w.heap.size w).alloc (Nat.le_refl _) (.cells #[.int .i64 0, .int .u64 0] 31)).trans (hb.mono (by simp)))
    clear hb c1 f1
    obtain ⟨hpe, hp0⟩ := hp
    rw [hpe] at p0 p1 ⊢
    have i0 : 0 ≤ a * b / 18446744073709551616 := by omega
    have i1 : a * b / 18446744073709551616 ≤ 4611686018427387904 := by omega
    clear hpe hp0 p0 p1
    generalize hH : a * b / 18446744073709551616 = H at *
    generalize hL : a * b % 18446744073709551616 = L at *
    have HH := Lib.hid hH
    have HL := Lib.hid hL
    clear hH hL
    go_wp2_with fail
    rw [HH.out, HL.out]
    refine bodyPost_ret (v := .agg #[.int .i64 H, .int .u64 L]) (by simp [results, Try.results67, go_sem, r0, r1, s0, s1, z1]) rfl ⟨rfl, ?_⟩
    exact ((HB.out.setCell (Nat.le_refl _) _).setCell (Nat.le_refl _) _).alloc (by simp; omega) _
  · have hp := PP1.out (by omega)
    have tA : decide (a < 0) = true := by simpa using g
    have tB : decide (b < 0) = false := by simpa using g'
    clear g g'
    go_enter Try.func67, Try.ntmps67
    go_wp2_with fail
    refine (size_any a ha0 ha1 _).mono ?_
    rintro e w1 ⟨rfl, rfl⟩
    go_wp2_with fail
    refine (size_any b hb0 hb1 _).mono ?_
    rintro e w1 ⟨rfl, rfl⟩
    go_wp2_with fail
    refine (times_any _ _ ⟨AZ.out.1, by have := AZ.out.2; omega⟩ ⟨BZ.out.1, by have := BZ.out.2; omega⟩ _).mono ?_
    rintro e w1 ⟨rfl, hb⟩
    obtain ⟨c1, f1, z1⟩ := step2 (b := w.heap.size) hb (by simp)
    have r0 := (c1 0).trans (show _ = some (.int .i64 0) by simp [go_sem])
    have r1 := (c1 1).trans (show _ = some (.int .u64 0) by simp [go_sem])
    have s0 := (f1 0).trans (show _ = false by simp [go_sem])
    have s1 := (f1 1).trans (show _ = false by simp [go_sem])
    have HB := Lib.hid (((Below.refl w.heap.size w).alloc (Nat.le_refl _) (.cells #[.int .i64 0, .int .u64 0] 31)).trans (hb.mono (by simp)))
    clear hb c1 f1
    obtain ⟨hpe, hp0⟩ := hp
    rw [hpe] at p0 p1 ⊢
    obtain ⟨n0, n1, n2, n3⟩ := neg_plain (a * b) hp0 p1
    clear hpe p0
    generalize hH : -(a * b) / 18446744073709551616 = H at *
    generalize hL : -(a * b) % 18446744073709551616 = L at *
    have HH := Lib.hid hH
    have HL := Lib.hid hL
    have HP := Lib.hid (And.intro hp0 p1)
    clear hH hL hp0 p1
    have tsg : IntKind.u64.signed = false := rfl
    have nH := K.u64not H n0 (by omega)
    have nL := K.u64not L n2 n3
    have m0 : 0 ≤ 18446744073709551615 - L := by omega
    have NN := Lib.hid (And.intro n1 n3)
    clear n1 n3
    go_wp2_with fail
    refine (plus1_any _ _ 1 m0 (by omega) _).mono ?_
    rintro e w2 ⟨rfl, hb⟩
    obtain ⟨c1, f1, z2⟩ := step2 (b := w.heap.size) hb (by simp; omega)
    have q0 := (c1 0).trans (show _ = some (.int .i64 0) by simp [go_sem, z1, r0])
    have q1 := (c1 1).trans (show _ = some (.int .u64 0) by simp [go_sem, z1, r1])
    have t0 := (f1 0).trans (show _ = false by simp [go_sem, z1, s0])
    have t1 := (f1 1).trans (show _ = false by simp [go_sem, z1, s1])
    have HC := Lib.hid ((HB.out.alloc (Nat.le_of_lt z1) (.cells #[.int .u64 H, .int .u64 L] 108)).trans (hb.mono (by simp; omega)))
    obtain ⟨c2, f2, z3⟩ := step2 (b := w1.heap.size) hb (by simp)
    have u0 := (c2 0).trans (show _ = some (.int .u64 H) by simp [go_sem])
    have u1 := (c2 1).trans (show _ = some (.int .u64 L) by simp [go_sem])
    have v0 := (f2 0).trans (show _ = false by simp [go_sem])
    have v1 := (f2 1).trans (show _ = false by simp [go_sem])
    have ne : w1.heap.size ≠ w.heap.size := by omega
    have ne' : w.heap.size ≠ w1.heap.size := by omega
    clear hb c1 f1 r0 r1 s0 s1 z1 c2 f2
    obtain ⟨k0, k1, k2, k3, k4, k5⟩ := neg_wide (a * b) H L HH.out HL.out HP.out.1 HP.out.2
    generalize (18446744073709551615 - H + (18446744073709551615 - L + 1) / 18446744073709551616) % 18446744073709551616 = H' at *
    generalize (18446744073709551615 - L + 1) % 18446744073709551616 = L' at *
    have K4 := Lib.hid k4
    have K5 := Lib.hid k5
    clear k4 k5
    go_wp2_with fail
    rw [K4.out, K5.out]
    refine bodyPost_ret (v := .agg #[.int .i64 (wrap64 H'), .int .u64 L']) (by simp [results, Try.results67, go_sem, q0, q1, ne, ne']) rfl ⟨rfl, ?_⟩
    exact (((HC.out.setCell HB.out.size _).setCell HB.out.size _).setCell (Nat.le_refl _) _).setCell (Nat.le_refl _) _
  · have hp := PP1.out (by omega)
    have tA : decide (a < 0) = false := by simpa using g
    have tB : decide (b < 0) = true := by simpa using g'
    clear g g'
    go_enter Try.func67, Try.ntmps67
    go_wp2_with fail
    refine (size_any a ha0 ha1 _).mono ?_
    rintro e w1 ⟨rfl, rfl⟩
    go_wp2_with fail
    refine (size_any b hb0 hb1 _).mono ?_
    rintro e w1 ⟨rfl, rfl⟩
    go_wp2_with fail
    refine (times_any _ _ ⟨AZ.out.1, by have := AZ.out.2; omega⟩ ⟨BZ.out.1, by have := BZ.out.2; omega⟩ _).mono ?_
    rintro e w1 ⟨rfl, hb⟩
    obtain ⟨c1, f1, z1⟩ := step2 (b := w.heap.size) hb (by simp)
    have r0 := (c1 0).trans (show _ = some (.int .i64 0) by simp [go_sem])
    have r1 := (c1 1).trans (show _ = some (.int .u64 0) by simp [go_sem])
    have s0 := (f1 0).trans (show _ = false by simp [go_sem])
    have s1 := (f1 1).trans (show _ = false by simp [go_sem])
    have HB := Lib.hid (((Below.refl w.heap.size w).alloc (Nat.le_refl _) (.cells #[.int .i64 0, .int .u64 0] 31)).trans (hb.mono (by simp)))
    clear hb c1 f1
    obtain ⟨hpe, hp0⟩ := hp
    rw [hpe] at p0 p1 ⊢
    obtain ⟨n0, n1, n2, n3⟩ := neg_plain (a * b) hp0 p1
    clear hpe p0
    generalize hH : -(a * b) / 18446744073709551616 = H at *
    generalize hL : -(a * b) % 18446744073709551616 = L at *
    have HH := Lib.hid hH
    have HL := Lib.hid hL
    have HP := Lib.hid (And.intro hp0 p1)
    clear hH hL hp0 p1
    have tsg : IntKind.u64.signed = false := rfl
    have nH := K.u64not H n0 (by omega)
    have nL := K.u64not L n2 n3
    have m0 : 0 ≤ 18446744073709551615 - L := by omega
    have NN := Lib.hid (And.intro n1 n3)
    clear n1 n3
    go_wp2_with fail
    refine (plus1_any _ _ 1 m0 (by omega) _).mono ?_
    rintro e w2 ⟨rfl, hb⟩
    obtain ⟨c1, f1, z2⟩ := step2 (b := w.heap.size) hb (by simp; omega)
    have q0 := (c1 0).trans (show _ = some (.int .i64 0) by simp [go_sem, z1, r0])
    have q1 := (c1 1).trans (show _ = some (.int .u64 0) by simp [go_sem, z1, r1])
    have t0 := (f1 0).trans (show _ = false by simp [go_sem, z1, s0])
    have t1 := (f1 1).trans (show _ = false by simp [go_sem, z1, s1])
    have HC := Lib.hid ((HB.out.alloc (Nat.le_of_lt z1) (.cells #[.int .u64 H, .int .u64 L] 108)).trans (hb.mono (by simp; omega)))
    obtain ⟨c2, f2, z3⟩ := step2 (b := w1.heap.size) hb (by simp)
    have u0 := (c2 0).trans (show _ = some (.int .u64 H) by simp [go_sem])
    have u1 := (c2 1).trans (show _ = some (.int .u64 L) by simp [go_sem])
    have v0 := (f2 0).trans (show _ = false by simp [go_sem])
    have v1 := (f2 1).trans (show _ = false by simp [go_sem])
    have ne : w1.heap.size ≠ w.heap.size := by omega
    have ne' : w.heap.size ≠ w1.heap.size := by omega
    clear hb c1 f1 r0 r1 s0 s1 z1 c2 f2
    obtain ⟨k0, k1, k2, k3, k4, k5⟩ := neg_wide (a * b) H L HH.out HL.out HP.out.1 HP.out.2
    generalize (18446744073709551615 - H + (18446744073709551615 - L + 1) / 18446744073709551616) % 18446744073709551616 = H' at *
    generalize (18446744073709551615 - L + 1) % 18446744073709551616 = L' at *
    have K4 := Lib.hid k4
    have K5 := Lib.hid k5
    clear k4 k5
    go_wp2_with fail
    rw [K4.out, K5.out]
    refine bodyPost_ret (v := .agg #[.int .i64 (wrap64 H'), .int .u64 L']) (by simp [results, Try.results67, go_sem, q0, q1, ne, ne']) rfl ⟨rfl, ?_⟩
    exact (((HC.out.setCell HB.out.size _).setCell HB.out.size _).setCell (Nat.le_refl _) _).setCell (Nat.le_refl _) _
  · have hp := PP2.out (by omega)
    have tA : decide (a < 0) = false := by simpa using g
    have tB : decide (b < 0) = false := by simpa using g'
    clear g g'
    go_enter Try.func67, Try.ntmps67
    go_wp2_with fail
    refine (size_any a ha0 ha1 _).mono ?_
    rintro e w1 ⟨rfl, rfl⟩
    go_wp2_with fail
    refine (size_any b hb0 hb1 _).mono ?_
    rintro e w1 ⟨rfl, rfl⟩
    go_wp2_with fail
    refine (times_any _ _ ⟨AZ.out.1, by have := AZ.out.2; omega⟩ ⟨BZ.out.1, by have := BZ.out.2; omega⟩ _).mono ?_
    rintro e w1 ⟨rfl, hb⟩
    obtain ⟨c1, f1, z1⟩ := step2 (b := w.heap.size) hb (by simp)
    have r0 := (c1 0).trans (show _ = some (.int .i64 0) by simp [go_sem])
    have r1 := (c1 1).trans (show _ = some (.int .u64 0) by simp [go_sem])
    have s0 := (f1 0).trans (show _ = false by simp [go_sem])
    have s1 := (f1 1).trans (show _ = false by simp [go_sem])
    have HB := Lib.hid (((Below.refl w.heap.size w).alloc (Nat.le_refl _) (.cells #[.int .i64 0, .int .u64 0] 31)).trans (hb.mono (by simp)))
    clear hb c1 f1
    obtain ⟨hpe, hp0⟩ := hp
    rw [hpe] at p0 p1 ⊢
    have i0 : 0 ≤ a * b / 18446744073709551616 := by omega
    have i1 : a * b / 18446744073709551616 ≤ 4611686018427387904 := by omega
    clear hpe hp0 p0 p1
    generalize hH : a * b / 18446744073709551616 = H at *
    generalize hL : a * b % 18446744073709551616 = L at *
    have HH := Lib.hid hH
    have HL := Lib.hid hL
    clear hH hL
    go_wp2_with fail
    rw [HH.out, HL.out]
    refine bodyPost_ret (v := .agg #[.int .i64 H, .int .u64 L]) (by simp [results, Try.results67, go_sem, r0, r1, s0, s1, z1]) rfl ⟨rfl, ?_⟩
    exact ((HB.out.setCell (Nat.le_refl _) _).setCell (Nat.le_refl _) _).alloc (by simp; omega) _
end Go.Proofs.Ytodigegjngnknaa.X
namespace Go.Proofs.Ytodigegjngnknaa.X
open Go.RowKit
def sg (a b : Int) : Int := if a < b then -1 else if b < a then 1 else 0
theorem nan1 (a : Int) (w : World) : Calls Try.prog 114 #[.int .i64 a] w fun e w' => e = .returned (.bool false) ∧ w = w' := by
  go_enter Try.func114, Try.ntmps114
  go_wp2_with fail
  go_ret
  exact ⟨by simp, rfl⟩
theorem nan2 (a : Int) (w : World) : Calls Try.prog 115 #[.int .u64 a] w fun e w' => e = .returned (.bool false) ∧ w = w' := by
  go_enter Try.func115, Try.ntmps115
  go_wp2_with fail
  go_ret
  exact ⟨by simp, rfl⟩
theorem cmpi_any (a b : Int) (w : World) : Calls Try.prog 100 #[.int .i64 a, .int .i64 b] w fun e w' => e = .returned (.int .i64 (sg a b)) ∧ w = w' := by
  go_enter Try.func100, Try.ntmps100
  go_wp2_with (go_at_call 114; refine (nan1 _ _).mono ?_; rintro e w1 ⟨rfl, rfl⟩)
  all_goals go_ret
  · rename_i h; exact ⟨xret_int (by unfold sg; rw [if_pos h]), rfl⟩
  · rename_i h h'; exact ⟨xret_int (by unfold sg; rw [if_neg (by omega), if_pos h']), rfl⟩
  · rename_i h h'; exact ⟨xret_int (by unfold sg; rw [if_neg (by omega), if_neg (by omega)]), rfl⟩
theorem cmpu_any (a b : Int) (w : World) : Calls Try.prog 101 #[.int .u64 a, .int .u64 b] w fun e w' => e = .returned (.int .i64 (sg a b)) ∧ w = w' := by
  go_enter Try.func101, Try.ntmps101
  go_wp2_with (go_at_call 115; refine (nan2 _ _).mono ?_; rintro e w1 ⟨rfl, rfl⟩)
  all_goals go_ret
  · rename_i h; exact ⟨xret_int (by unfold sg; rw [if_pos h]), rfl⟩
  · rename_i h h'; exact ⟨xret_int (by unfold sg; rw [if_neg (by omega), if_pos h']), rfl⟩
  · rename_i h h'; exact ⟨xret_int (by unfold sg; rw [if_neg (by omega), if_neg (by omega)]), rfl⟩
def orV (x y : Int) : Int := if x = 0 then y else x
theorem Or_any (b : Nat) (x y : Int) (w : World) (c0 : w.cell? ⟨b, 0, none⟩ = some (.int .i64 x)) (c1 : w.cell? ⟨b, 1, none⟩ = some (.int .i64 y)) :
    Calls Try.prog 99 #[.slice (some ⟨b, 0, none⟩) 2 2] w fun e w' => e = .returned (.int .i64 (orV x y)) ∧ w = w' := by
  go_enter Try.func99, Try.ntmps99
  go_wp2_with fail
  go_loop [8] (fun u => ∃ j : Nat, u = .int .i64 j ∧ (j = 0 ∨ (j = 1 ∧ x = 0) ∨ (j = 2 ∧ x = 0 ∧ y = 0))) (fun u => (2 - intOf u).toNat)
  case atStart => exact ⟨0, by go_num, Or.inl rfl⟩
  case round =>
    obtain ⟨j, rfl, hj⟩ := hrel
    rcases hj with rfl | ⟨rfl, hx⟩ | ⟨rfl, hx, hy⟩
    · by_cases h : x = 0
      · have h0 : (x == 0) = true := by simpa using h
        have HX := Lib.hid h
        clear h
        go_wp2_with fail
        exact ⟨⟨1, by go_num, Or.inr (Or.inl ⟨rfl, HX.out⟩)⟩, by simp [intOf]⟩
      · have h0 : (x == 0) = false := by simpa using h
        go_wp2_with fail
        go_ret
        exact ⟨xret_int (by unfold orV; rw [if_neg h]), rfl⟩
    · by_cases h : y = 0
      · have h0 : (y == 0) = true := by simpa using h
        have HX := Lib.hid hx
        have HY := Lib.hid h
        clear h hx
        go_wp2_with fail
        exact ⟨⟨2, by go_num, Or.inr (Or.inr ⟨rfl, HX.out, HY.out⟩)⟩, by simp [intOf]⟩
      · have h0 : (y == 0) = false := by simpa using h
        have HX := Lib.hid hx
        clear hx
        go_wp2_with fail
        go_ret
        exact ⟨xret_int (by unfold orV; rw [if_pos HX.out]), rfl⟩
    · have HX := Lib.hid hx
      have HY := Lib.hid hy
      clear hx hy
      go_wp2_with fail
      go_ret
      exact ⟨xret_int (by unfold orV; rw [if_pos HX.out, HY.out]), rfl⟩
theorem Cmp_any (a b c d : Int) (w : World) : Calls Try.prog 70 #[.agg #[.int .i64 a, .int .u64 b], .agg #[.int .i64 c, .int .u64 d]] w fun e w' => e = .returned (.int .i64 (orV (sg a c) (sg b d))) ∧ Below w.heap.size w w' := by
  go_enter Try.func70, Try.ntmps70
  go_wp2_with fail
  go_region_held3 (fun w' => w'.cell? ⟨w.heap.size, 0, none⟩ = some (.int .i64 a) ∧ w'.cell? ⟨w.heap.size, 1, none⟩ = some (.int .u64 b) ∧ w'.cell? ⟨w.heap.size + 1, 0, none⟩ = some (.int .i64 c) ∧ w'.cell? ⟨w.heap.size + 1, 1, none⟩ = some (.int .u64 d)) (first | exact ⟨by assumption, by assumption, by assumption, by assumption⟩ | (simp [go_sem, *]; done) | (trace_state; fail))
    (first
      | (go_at_call 100; refine (cmpi_any _ _ _).mono ?_; rintro e w1 ⟨rfl, rfl⟩)
      | (go_at_call 101; refine (cmpu_any _ _ _).mono ?_; rintro e w1 ⟨rfl, rfl⟩)
      | (go_at_call 99; refine (Or_any (w.heap.size + 1 + 1) (sg a c) (sg b d) _ (by simp [go_sem]) (by simp [go_sem])).mono ?_; rintro e w1 ⟨rfl, rfl⟩))
  go_wp2_with fail
  all_goals go_ret
  all_goals exact ⟨rfl, (((Below.refl _ _).alloc (Nat.le_refl _) _).alloc (by simp) _).alloc (by simp; omega) _ |>.drew⟩
end Go.Proofs.Ytodigegjngnknaa.X
namespace Go.Proofs.Ytodigegjngnknaa.X
open Go.RowKit
theorem i64or (e : Nat) (r b : Int) (h0 : 0 ≤ r) (h1 : r < 9223372036854775808) (hr : r % (2 : Int) ^ e = 0) (b0 : 0 ≤ b) (b1 : b < (2 : Int) ^ e) (hs : r + b < 9223372036854775808) : bits .or .i64 r b = r + b := by
  refine bits_join .i64 63 (by decide) (fun n a c => by rw [IntKind.wrap_i64]; omega) e r b h0 hr ?_ b0 b1 ?_
  all_goals omega
theorem cmpW (p n : Int) : orV (sg (p / 18446744073709551616) (n / 18446744073709551616)) (sg (p % 18446744073709551616) (n % 18446744073709551616)) = sg p n := by
  unfold orV sg
  repeat' split
  all_goals omega
/-- A step of the search for the root: what is known of the part that is found. -/
def Rt (e : Nat) (r N : Int) : Prop := e ≤ 63 ∧ 0 ≤ r ∧ r % (2 : Int) ^ e = 0 ∧ r + (2 : Int) ^ e ≤ 9223372036854775808 ∧ r * r ≤ N ∧ N < (r + (2 : Int) ^ e) * (r + (2 : Int) ^ e)
theorem rt_start (N : Int) (h0 : 0 ≤ N) (h1 : N < 85070591730234615865843651857942052864) : Rt 63 0 N := by
  refine ⟨by omega, by omega, by decide, by decide, by omega, ?_⟩
  have : ((0 : Int) + (2 : Int) ^ 63) * ((0 : Int) + (2 : Int) ^ 63) = 85070591730234615865843651857942052864 := by decide
  omega
theorem two_succ (e : Nat) : (2 : Int) ^ (e + 1) = 2 * (2 : Int) ^ e := by rw [Int.pow_succ]; omega
theorem two_pos (e : Nat) : 1 ≤ (2 : Int) ^ e := by have := Int.pow_pos (n := 2) (m := e) (by omega); omega
theorem rt_or {e : Nat} {r N : Int} (h : Rt (e + 1) r N) : bits .or .i64 r ((2 : Int) ^ e) = r + (2 : Int) ^ e ∧ 0 ≤ r + (2 : Int) ^ e ∧ r + (2 : Int) ^ e ≤ 9223372036854775807 := by
  obtain ⟨h1, h2, h3, h4, _, _⟩ := h
  have t := two_succ e
  have p := two_pos e
  refine ⟨i64or (e + 1) r _ h2 (by omega) h3 (by omega) (by omega) (by omega), by omega, by omega⟩
theorem mod_half {e : Nat} {r : Int} (h : r % (2 : Int) ^ (e + 1) = 0) : r % (2 : Int) ^ e = 0 := by
  rw [two_succ] at h
  exact Int.emod_eq_zero_of_dvd (Int.dvd_trans (Int.dvd_mul_left 2 _) (Int.dvd_of_emod_eq_zero h))
theorem rt_no {e : Nat} {r N : Int} (h : Rt (e + 1) r N) (hc : N < (r + (2 : Int) ^ e) * (r + (2 : Int) ^ e)) : Rt e r N := by
  obtain ⟨h1, h2, h3, h4, h5, h6⟩ := h
  have t := two_succ e
  have p := two_pos e
  exact ⟨by omega, h2, mod_half h3, by omega, h5, hc⟩
theorem rt_yes {e : Nat} {r N : Int} (h : Rt (e + 1) r N) (hc : ¬ N < (r + (2 : Int) ^ e) * (r + (2 : Int) ^ e)) : Rt e (r + (2 : Int) ^ e) N := by
  obtain ⟨h1, h2, h3, h4, h5, h6⟩ := h
  have t := two_succ e
  have p := two_pos e
  refine ⟨by omega, by omega, ?_, by omega, by omega, ?_⟩
  · rw [Int.add_emod, mod_half h3, Int.emod_self]; simp
  · rw [show r + (2 : Int) ^ e + (2 : Int) ^ e = r + (2 : Int) ^ (e + 1) from by omega]; exact h6
theorem rt_end {r N : Int} (h : Rt 0 r N) : 0 ≤ r ∧ r ≤ 9223372036854775807 ∧ r * r ≤ N ∧ N < (r + 1) * (r + 1) := by
  obtain ⟨h1, h2, h3, h4, h5, h6⟩ := h
  simp at h4 h6
  exact ⟨h2, by omega, h5, h6⟩
def IsRoot (r N : Int) : Prop := 0 ≤ r ∧ r ≤ 9223372036854775807 ∧ r * r ≤ N ∧ N < (r + 1) * (r + 1)
theorem root_uniq {r s N : Int} (h : IsRoot r N) (h' : IsRoot s N) : r = s := by
  obtain ⟨a, _, b, c⟩ := h
  obtain ⟨a', _, b', c'⟩ := h'
  rcases Int.lt_trichotomy r s with g | g | g
  · have := Int.mul_le_mul (show r + 1 ≤ s by omega) (show r + 1 ≤ s by omega) (by omega) a'
    omega
  · exact g
  · have := Int.mul_le_mul (show s + 1 ≤ r by omega) (show s + 1 ≤ r by omega) (by omega) a
    omega
def RootRes (N : Int) (w : World) (e : Ending) (w' : World) : Prop := ∃ r : Int, IsRoot r N ∧ e = .returned (.int .i64 r) ∧ Below w.heap.size w w'
theorem rw1_any (x : Int) (hx : 0 ≤ x ∧ x ≤ 9223372036854775807) (w : World) :
    Calls Try.prog 69 #[.int .i64 x] w fun e w' => e = .returned (.agg #[.int .i64 (x * x / 18446744073709551616), .int .u64 (x * x % 18446744073709551616)]) ∧ Below w.heap.size w w' := by
  go_enter Try.func69, Try.ntmps69
  go_wp2_with fail
  refine (prod_any x x (by omega) (by omega) _).mono ?_
  rintro e w1 ⟨rfl, hb⟩
  obtain ⟨c1, f1, z1⟩ := step2 (b := w.heap.size) hb (by simp)
  have r0 := (c1 0).trans (show _ = some (.int .i64 0) by simp [go_sem])
  have r1 := (c1 1).trans (show _ = some (.int .u64 0) by simp [go_sem])
  have s0 := (f1 0).trans (show _ = false by simp [go_sem])
  have s1 := (f1 1).trans (show _ = false by simp [go_sem])
  have HB := Lib.hid (((Below.refl w.heap.size w).alloc (Nat.le_refl _) (.cells #[.int .i64 0, .int .u64 0] 31)).trans (hb.mono (by simp)))
  clear hb c1 f1
  generalize hH : x * x / 18446744073709551616 = H at *
  generalize hL : x * x % 18446744073709551616 = L at *
  have HH := Lib.hid hH
  have HL := Lib.hid hL
  clear hH hL
  go_wp2_with fail
  rw [HH.out, HL.out]
  refine bodyPost_ret (v := .agg #[.int .i64 H, .int .u64 L]) (by simp [results, Try.results69, go_sem, r0, r1]) rfl ⟨rfl, ?_⟩
  exact (HB.out.setCell (Nat.le_refl _) _).setCell (Nat.le_refl _) _
set_option maxHeartbeats 2000000 in
theorem root_any (N : Int) (h0 : 0 ≤ N) (h1 : N < 85070591730234615865843651857942052864) (w : World) :
    Calls Try.prog 68 #[.agg #[.int .i64 (N / 18446744073709551616), .int .u64 (N % 18446744073709551616)], .func (.func 69) #[] #[], .func (.func 70) #[] #[]] w (RootRes N w) := by
  have hst := rt_start N h0 h1
  have HS := Lib.hid hst
  have HC := Lib.hid (fun p => cmpW p N)
  clear hst h0 h1
  generalize hA : N / 18446744073709551616 = A at *
  generalize hB : N % 18446744073709551616 = B at *
  clear hA hB
  go_enter Try.func68, Try.ntmps68
  go_wp2_with fail
  go_step3
  go_wp2_with fail
  go_step3
  go_wp2_with fail
  go_loopw [7, 8] (fun u v wr => ∃ (e : Nat) (r : Int), u = .int .i64 r ∧ v = .int .i64 ((2 : Int) ^ e / 2) ∧ Rt e r N ∧ wr.cell? ⟨w.heap.size, 0, none⟩ = some (.int .i64 A) ∧ wr.cell? ⟨w.heap.size, 1, none⟩ = some (.int .u64 B) ∧ w.heap.size < wr.heap.size ∧ Below w.heap.size w wr) (fun _ v _ => (intOf v).toNat)
  case atStart => exact ⟨63, 0, rfl, rfl, HS.out, by simp [go_sem], by simp [go_sem], by simp, (Below.refl _ _).alloc (Nat.le_refl _) _⟩
  case round =>
    obtain ⟨e, r, rfl, rfl, hrt, c0, c1, hs, hb⟩ := hrel
    cases e with
    | zero =>
      have hend := rt_end hrt
      have HE := Lib.hid hend
      clear hend hrt
      rw [show (2 : Int) ^ 0 / 2 = 0 from by decide]
      go_wp2_with fail
      rw [Exit.noGoto_ret]
      go_ret
      exact ⟨r, HE.out, rfl, hb⟩
    | succ e =>
      obtain ⟨hor, t0, t1⟩ := rt_or hrt
      have hno := fun h => rt_no hrt h
      have hyes := fun h => rt_yes hrt h
      have HN := Lib.hid hno
      have HY := Lib.hid hyes
      have p2 := two_pos e
      have hr0 : 0 ≤ r := hrt.2.1
      clear hno hyes hrt
      rw [show (2 : Int) ^ (e + 1) / 2 = (2 : Int) ^ e from by rw [two_succ]; omega]
      generalize hb' : (2 : Int) ^ e = b at *
      have HB2 := Lib.hid hb'
      have hcm := HC.out ((r + b) * (r + b))
      clear hb'
      have hh0 : 0 ≤ b / 2 := by omega
      have hh1 : b / 2 < b := by omega
      have HM := Lib.hid hcm
      clear hcm
      by_cases hc : N < (r + b) * (r + b)
      · have hsg : sg ((r + b) * (r + b)) N = 1 := by unfold sg; rw [if_neg (by omega), if_pos hc]
        have hnx := HN.out hc
        have HX := Lib.hid hnx
        have HSG := Lib.hid hsg
        clear hnx hsg hc HN HY
        have hb0 := Lib.hid hb
        clear hb
        go_wp2_with fail
        go_region_held3 (fun w' => w'.cell? ⟨w.heap.size, 0, none⟩ = some (.int .i64 A) ∧ w'.cell? ⟨w.heap.size, 1, none⟩ = some (.int .u64 B)) (first | exact ⟨by assumption, by assumption⟩ | (simp [go_sem, *]; done))
          (first
            | (go_at_call 69; refine (rw1_any (r + b) ⟨t0, t1⟩ _).mono ?_; rintro e1 w1 ⟨rfl, hb1⟩; have d0 := (hb1.cell (p := ⟨w.heap.size, 0, none⟩) (by assumption)).trans (by assumption); have d1 := (hb1.cell (p := ⟨w.heap.size, 1, none⟩) (by assumption)).trans (by assumption); have z1 : w.heap.size < w1.heap.size := Nat.lt_of_lt_of_le hs hb1.size; have HC1 := Lib.hid (hb0.out.drew.trans (hb1.mono (Nat.le_of_lt hs))); clear hb1)
            | (go_at_call 70; refine (Cmp_any _ _ A B _).mono ?_; rintro e2 w2 ⟨rfl, hb1⟩; have d2 := (hb1.cell (p := ⟨w.heap.size, 0, none⟩) z1).trans d0; have d3 := (hb1.cell (p := ⟨w.heap.size, 1, none⟩) z1).trans d1; have z2 : w.heap.size < w2.heap.size := Nat.lt_of_lt_of_le z1 hb1.size; have HC2 := Lib.hid (HC1.out.trans (hb1.mono (Nat.le_of_lt z1))); clear hb1; rw [HM.out, HSG.out]))
        go_wp2_with fail
        exact ⟨⟨e, r, rfl, by rw [HB2.out], HX.out, d2, d3, z2, HC2.out⟩, by simp [intOf]; omega⟩
      · have hsg : sg ((r + b) * (r + b)) N = -1 ∨ sg ((r + b) * (r + b)) N = 0 := by unfold sg; by_cases k : (r + b) * (r + b) < N <;> simp [k]; omega
        have hnx := HY.out hc
        have HX := Lib.hid hnx
        clear hnx hc HN HY
        rcases hsg with hsg | hsg
        all_goals have HSG := Lib.hid hsg
        all_goals clear hsg
        · have hb0 := Lib.hid hb
          clear hb
          go_wp2_with fail
          go_region_held3 (fun w' => w'.cell? ⟨w.heap.size, 0, none⟩ = some (.int .i64 A) ∧ w'.cell? ⟨w.heap.size, 1, none⟩ = some (.int .u64 B)) (first | exact ⟨by assumption, by assumption⟩ | (simp [go_sem, *]; done))
            (first
              | (go_at_call 69; refine (rw1_any (r + b) ⟨t0, t1⟩ _).mono ?_; rintro e1 w1 ⟨rfl, hb1⟩; have d0 := (hb1.cell (p := ⟨w.heap.size, 0, none⟩) (by assumption)).trans (by assumption); have d1 := (hb1.cell (p := ⟨w.heap.size, 1, none⟩) (by assumption)).trans (by assumption); have z1 : w.heap.size < w1.heap.size := Nat.lt_of_lt_of_le hs hb1.size; have HC1 := Lib.hid (hb0.out.drew.trans (hb1.mono (Nat.le_of_lt hs))); clear hb1)
              | (go_at_call 70; refine (Cmp_any _ _ A B _).mono ?_; rintro e2 w2 ⟨rfl, hb1⟩; have d2 := (hb1.cell (p := ⟨w.heap.size, 0, none⟩) z1).trans d0; have d3 := (hb1.cell (p := ⟨w.heap.size, 1, none⟩) z1).trans d1; have z2 : w.heap.size < w2.heap.size := Nat.lt_of_lt_of_le z1 hb1.size; have HC2 := Lib.hid (HC1.out.trans (hb1.mono (Nat.le_of_lt z1))); clear hb1; rw [HM.out, HSG.out]))
          go_wp2_with fail
          exact ⟨⟨e, r + b, rfl, by rw [HB2.out], HX.out, d2, d3, z2, HC2.out⟩, by simp [intOf]; omega⟩
        · have hb0 := Lib.hid hb
          clear hb
          go_wp2_with fail
          go_region_held3 (fun w' => w'.cell? ⟨w.heap.size, 0, none⟩ = some (.int .i64 A) ∧ w'.cell? ⟨w.heap.size, 1, none⟩ = some (.int .u64 B)) (first | exact ⟨by assumption, by assumption⟩ | (simp [go_sem, *]; done))
            (first
              | (go_at_call 69; refine (rw1_any (r + b) ⟨t0, t1⟩ _).mono ?_; rintro e1 w1 ⟨rfl, hb1⟩; have d0 := (hb1.cell (p := ⟨w.heap.size, 0, none⟩) (by assumption)).trans (by assumption); have d1 := (hb1.cell (p := ⟨w.heap.size, 1, none⟩) (by assumption)).trans (by assumption); have z1 : w.heap.size < w1.heap.size := Nat.lt_of_lt_of_le hs hb1.size; have HC1 := Lib.hid (hb0.out.drew.trans (hb1.mono (Nat.le_of_lt hs))); clear hb1)
              | (go_at_call 70; refine (Cmp_any _ _ A B _).mono ?_; rintro e2 w2 ⟨rfl, hb1⟩; have d2 := (hb1.cell (p := ⟨w.heap.size, 0, none⟩) z1).trans d0; have d3 := (hb1.cell (p := ⟨w.heap.size, 1, none⟩) z1).trans d1; have z2 : w.heap.size < w2.heap.size := Nat.lt_of_lt_of_le z1 hb1.size; have HC2 := Lib.hid (HC1.out.trans (hb1.mono (Nat.le_of_lt z1))); clear hb1; rw [HM.out, HSG.out]))
          go_wp2_with fail
          exact ⟨⟨e, r + b, rfl, by rw [HB2.out], HX.out, d2, d3, z2, HC2.out⟩, by simp [intOf]; omega⟩
theorem RootWide_any (hi lo : Int) (h : 0 ≤ hi) (h' : hi < 4611686018427387904) (l0 : 0 ≤ lo) (l1 : lo < 18446744073709551616) (w : World) :
    Calls Try.prog 37 #[.agg #[.int .i64 hi, .int .u64 lo]] w fun e w' => ∃ r : Int, IsRoot r (hi * 18446744073709551616 + lo) ∧ e = .returned (.tuple #[.int .i64 r, .int .i64 0]) ∧ Below w.heap.size w w' := by
  have hr := root_any (hi * 18446744073709551616 + lo) (by omega) (by omega)
  rw [show (hi * 18446744073709551616 + lo) / 18446744073709551616 = hi from by omega, show (hi * 18446744073709551616 + lo) % 18446744073709551616 = lo from by omega] at hr
  have HR := Lib.hid hr
  clear hr
  generalize hN : hi * 18446744073709551616 + lo = N at *
  have HN := Lib.hid hN
  clear hN
  go_enter Try.func37, Try.ntmps37
  go_wp2_with fail
  refine (HR.out _).mono ?_
  rintro e w1 ⟨r, hr, rfl, hb⟩
  have HB := Lib.hid (((Below.refl w.heap.size w).alloc (Nat.le_refl _) (.cells #[.int .i64 hi, .int .u64 lo] 31)).trans (hb.mono (by simp)))
  have HRR := Lib.hid hr
  clear hb hr
  go_wp2_with fail
  go_ret2
  exact ⟨r, HRR.out, rfl, HB.out⟩
end Go.Proofs.Ytodigegjngnknaa.X
namespace Go.Proofs.Ytodigegjngnknaa.X
open Go.RowKit
theorem rsize_any (a : Int) (h : -9223372036854775808 ≤ a) (h' : a ≤ 9223372036854775807) (w : World) :
    Calls Try.prog 40 #[.int .i64 a] w fun e w' => e = .returned (.int .u64 (az a)) ∧ w = w' := by
  by_cases g : a < 0
  · go_enter Try.func40, Try.ntmps40
    go_wp2_with fail
    go_ret
    exact ⟨ret_u64 (by unfold az; rw [if_pos g]; simp only [IntKind.wrap_u64]; omega), rfl⟩
  · go_enter Try.func40, Try.ntmps40
    go_wp2_with fail
    go_ret
    exact ⟨ret_u64 (by unfold az; rw [if_neg (by omega)]), rfl⟩
theorem rprod_nn (n : Int) (h : 0 ≤ n) (h' : n ≤ 9223372036854775807) (w : World) :
    Calls Try.prog 15 #[.int .i64 n, .int .i64 n] w fun e w' => e = .returned (.agg #[.int .i64 (n * n / 18446744073709551616), .int .u64 (n * n % 18446744073709551616)]) ∧ Below w.heap.size w w' := by
  have ea : az n = n := by unfold az; rw [if_neg (by omega)]
  have EA := Lib.hid ea
  clear ea
  have q0 := Int.mul_nonneg h h
  have q1 := Int.mul_le_mul h' h' h (by omega)
  have i0 : 0 ≤ n * n / 18446744073709551616 := by omega
  have i1 : n * n / 18446744073709551616 ≤ 4611686018427387904 := by omega
  clear q0 q1
  have tA : decide (n < 0) = false := by simp; omega
  go_enter Try.func15, Try.ntmps15
  go_wp2_with fail
  refine (rsize_any n (by omega) h' _).mono ?_
  rintro e w1 ⟨rfl, rfl⟩
  rw [EA.out]
  go_wp2_with fail
  refine (rsize_any n (by omega) h' _).mono ?_
  rintro e w1 ⟨rfl, rfl⟩
  rw [EA.out]
  go_wp2_with fail
  refine (mul64_any n n ⟨h, by omega⟩ ⟨h, by omega⟩ _).mono ?_
  rintro e w1 ⟨rfl, rfl⟩
  generalize hH : n * n / 18446744073709551616 = H at *
  generalize hL : n * n % 18446744073709551616 = L at *
  have HH := Lib.hid hH
  have HL := Lib.hid hL
  clear hH hL
  go_wp2_with fail
  rw [HH.out, HL.out]
  refine bodyPost_ret (v := .agg #[.int .i64 H, .int .u64 L]) (by simp [results, Try.results15, go_sem]) rfl ⟨rfl, ?_⟩
  exact (Below.refl _ _).alloc (Nat.le_refl _) _
end Go.Proofs.Ytodigegjngnknaa.X
namespace Go.Proofs.Ytodigegjngnknaa.X
open Go.RowKit
theorem ret_u32 {a b : Int} (h : a = b) : Ending.returned (.int .u32 a) = .returned (.int .u32 b) := by rw [h]
end Go.Proofs.Ytodigegjngnknaa.X
namespace Go.Proofs.Ytodigegjngnknaa.X
open Go.RowKit
theorem rCmp_any (a b c d : Int) (w : World) :
    Calls Try.prog 14 #[.agg #[.int .i64 a, .int .u64 b], .agg #[.int .i64 c, .int .u64 d]] w fun e w' => e = .returned (.int .i64 (orV (sg a c) (sg b d))) ∧ Below w.heap.size w w' := by
  rcases Int.lt_trichotomy a c with h | h | h
  · have hR : orV (sg a c) (sg b d) = -1 := by unfold orV sg; repeat' split <;> omega
    rw [hR]; clear hR
    go_enter Try.func14, Try.ntmps14
    go_wp2_with fail
    all_goals go_ret
    all_goals exact ⟨rfl, ((Below.refl _ _).alloc (Nat.le_refl _) _).alloc (by simp) _⟩
  · subst h
    have hs : sg a a = 0 := by unfold sg; repeat' split <;> omega
    rw [hs]; clear hs
    rcases Int.lt_trichotomy b d with g | g | g
    · have hR : orV 0 (sg b d) = -1 := by unfold orV sg; repeat' split <;> omega
      rw [hR]; clear hR
      go_enter Try.func14, Try.ntmps14
      go_wp2_with fail
      all_goals go_ret
      all_goals exact ⟨rfl, ((Below.refl _ _).alloc (Nat.le_refl _) _).alloc (by simp) _⟩
    · subst g
      have hR : orV 0 (sg b b) = 0 := by unfold orV sg; repeat' split <;> omega
      rw [hR]; clear hR
      go_enter Try.func14, Try.ntmps14
      go_wp2_with fail
      all_goals go_ret
      all_goals exact ⟨rfl, ((Below.refl _ _).alloc (Nat.le_refl _) _).alloc (by simp) _⟩
    · have hR : orV 0 (sg b d) = 1 := by unfold orV sg; repeat' split <;> omega
      have e1 : (b == d) = false := by simp; omega
      rw [hR]; clear hR
      go_enter Try.func14, Try.ntmps14
      go_wp2_with fail
      all_goals go_ret
      all_goals exact ⟨rfl, ((Below.refl _ _).alloc (Nat.le_refl _) _).alloc (by simp) _⟩
  · have hR : orV (sg a c) (sg b d) = 1 := by unfold orV sg; repeat' split <;> omega
    have e1 : (a == c) = false := by simp; omega
    rw [hR]; clear hR
    go_enter Try.func14, Try.ntmps14
    go_wp2_with fail
    all_goals go_ret
    all_goals exact ⟨rfl, ((Below.refl _ _).alloc (Nat.le_refl _) _).alloc (by simp) _⟩
theorem RootWide_neg (hi lo : Int) (h : hi < 0) (w : World) :
    Calls Try.prog 37 #[.agg #[.int .i64 hi, .int .u64 lo]] w fun e w' => e = .returned (.tuple #[.int .i64 0, .int .i64 2]) ∧ Below w.heap.size w w' := by
  go_enter Try.func37, Try.ntmps37
  go_wp2_with fail
  all_goals go_ret2
  all_goals exact ⟨rfl, (Below.refl _ _).alloc (Nat.le_refl _) _⟩
theorem RootWide_over (hi lo : Int) (h : 4611686018427387904 ≤ hi) (w : World) :
    Calls Try.prog 37 #[.agg #[.int .i64 hi, .int .u64 lo]] w fun e w' => e = .returned (.tuple #[.int .i64 0, .int .i64 5]) ∧ Below w.heap.size w w' := by
  go_enter Try.func37, Try.ntmps37
  go_wp2_with fail
  all_goals go_ret2
  all_goals exact ⟨rfl, (Below.refl _ _).alloc (Nat.le_refl _) _⟩
theorem rRootWide_neg (hi lo : Int) (h : hi < 0) (w : World) :
    Calls Try.prog 62 #[.agg #[.int .i64 hi, .int .u64 lo]] w fun e w' => e = .returned (.tuple #[.int .i64 0, .int .i64 2]) ∧ Below w.heap.size w w' := by
  go_enter Try.func62, Try.ntmps62
  go_wp2_with fail
  all_goals go_ret2
  all_goals exact ⟨rfl, (Below.refl _ _).alloc (Nat.le_refl _) _⟩
theorem rRootWide_over (hi lo : Int) (h : 4611686018427387904 ≤ hi) (w : World) :
    Calls Try.prog 62 #[.agg #[.int .i64 hi, .int .u64 lo]] w fun e w' => e = .returned (.tuple #[.int .i64 0, .int .i64 5]) ∧ Below w.heap.size w w' := by
  go_enter Try.func62, Try.ntmps62
  go_wp2_with fail
  all_goals go_ret2
  all_goals exact ⟨rfl, (Below.refl _ _).alloc (Nat.le_refl _) _⟩
end Go.Proofs.Ytodigegjngnknaa.X
namespace Go.Proofs.Ytodigegjngnknaa.X
open Go.RowKit
set_option maxHeartbeats 2000000 in
set_option maxRecDepth 100000 in
theorem rRootWide_any (hi lo : Int) (h : 0 ≤ hi) (h' : hi < 4611686018427387904) (l0 : 0 ≤ lo) (l1 : lo < 18446744073709551616) (w : World) :
    Calls Try.prog 62 #[.agg #[.int .i64 hi, .int .u64 lo]] w fun e w' => ∃ r : Int, IsRoot r (hi * 18446744073709551616 + lo) ∧ e = .returned (.tuple #[.int .i64 r, .int .i64 0]) ∧ Below w.heap.size w w' := by
  generalize hN : hi * 18446744073709551616 + lo = N
  obtain rfl : hi = N / 18446744073709551616 := by omega
  obtain rfl : lo = N % 18446744073709551616 := by omega
  have hst := rt_start N (by omega) (by omega)
  have HS := Lib.hid hst
  have HC := Lib.hid (fun p => cmpW p N)
  clear hst hN
  generalize hA : N / 18446744073709551616 = A at *
  generalize hB : N % 18446744073709551616 = B at *
  clear hA hB
  go_enter Try.func62, Try.ntmps62
  go_wp2_with fail
  clear h h' l0 l1
  go_loopw [4, 5] (fun u v wr => ∃ (e : Nat) (r : Int), u = .int .i64 r ∧ v = .int .i64 ((2 : Int) ^ e / 2) ∧ Rt e r N ∧ wr.cell? ⟨w.heap.size, 0, none⟩ = some (.int .i64 A) ∧ wr.cell? ⟨w.heap.size, 1, none⟩ = some (.int .u64 B) ∧ w.heap.size < wr.heap.size ∧ Below w.heap.size w wr) (fun _ v _ => (intOf v).toNat)
  case atStart => exact ⟨63, 0, rfl, rfl, HS.out, by simp [go_sem], by simp [go_sem], by simp, (Below.refl _ _).alloc (Nat.le_refl _) _⟩
  case round =>
    obtain ⟨e, r, rfl, rfl, hrt, c0, c1, hs, hb⟩ := hrel
    cases e with
    | zero =>
      have hend := rt_end hrt
      have HE := Lib.hid hend
      clear hend hrt
      rw [show (2 : Int) ^ 0 / 2 = 0 from by decide]
      go_wp2_with fail
      go_ret2
      exact ⟨r, HE.out, rfl, hb⟩
    | succ e =>
      obtain ⟨-, t0, t1⟩ := rt_or hrt
      have hno := fun h => rt_no hrt h
      have hyes := fun h => rt_yes hrt h
      have HN := Lib.hid hno
      have HY := Lib.hid hyes
      have p2 := two_pos e
      have hr0 : 0 ≤ r := hrt.2.1
      clear hno hyes hrt
      rw [show (2 : Int) ^ (e + 1) / 2 = (2 : Int) ^ e from by rw [two_succ]; omega]
      generalize hb' : (2 : Int) ^ e = b at *
      have HB2 := Lib.hid hb'
      have hcm := HC.out ((r + b) * (r + b))
      clear hb'
      have hh0 : 0 ≤ b / 2 := by omega
      have hh1 : b / 2 < b := by omega
      have htd : b.tdiv 2 = b / 2 := Int.tdiv_eq_ediv_of_nonneg (by omega)
      have hwr : IntKind.i64.wrap (r + b) = r + b := by rw [IntKind.wrap_i64]; omega
      have HM := Lib.hid hcm
      clear hcm
      have hb0 := Lib.hid hb
      clear hb
      generalize hP : (r + b) * (r + b) = P at *
      generalize hS : sg P N = S at *
      have HSS := Lib.hid hS
      have HPP := Lib.hid hP
      clear hS hP
      go_wp2_with fail
      go_region_held3 (fun w' => w'.cell? ⟨w.heap.size, 0, none⟩ = some (.int .i64 A) ∧ w'.cell? ⟨w.heap.size, 1, none⟩ = some (.int .u64 B)) (first | exact ⟨by assumption, by assumption⟩ | (simp [go_sem, *]; done))
        (first
            | (go_at_call 15; (try simp only [hwr]); refine (rprod_nn (r + b) t0 t1 _).mono ?_; rintro e1 w1 ⟨rfl, hb1⟩; have d0 := (hb1.cell (p := ⟨w.heap.size, 0, none⟩) (by assumption)).trans (by assumption); have d1 := (hb1.cell (p := ⟨w.heap.size, 1, none⟩) (by assumption)).trans (by assumption); have z1 : w.heap.size < w1.heap.size := Nat.lt_of_lt_of_le hs hb1.size; have HC1 := Lib.hid (hb0.out.drew.trans (hb1.mono (Nat.le_of_lt hs))); clear hb1)
            | (go_at_call 14; refine (rCmp_any _ _ A B _).mono ?_; rintro e2 w2 ⟨rfl, hb1⟩; have d2 := (hb1.cell (p := ⟨w.heap.size, 0, none⟩) z1).trans d0; have d3 := (hb1.cell (p := ⟨w.heap.size, 1, none⟩) z1).trans d1; have z2 : w.heap.size < w2.heap.size := Nat.lt_of_lt_of_le z1 hb1.size; have HC2 := Lib.hid (HC1.out.trans (hb1.mono (Nat.le_of_lt z1))); clear hb1; (try rw [HPP.out]); rw [HM.out]))
      have HTD := Lib.hid htd
      clear htd
      by_cases hq : S ≤ 0
      · have hPN : P ≤ N := by
          have := HSS.out
          by_cases k : P ≤ N
          · exact k
          · unfold sg at this; rw [if_neg (by omega), if_pos (by omega)] at this; omega
        have HX := Lib.hid (HY.out hPN)
        clear hPN HN HY HSS
        go_wp2_with fail
        exact ⟨⟨e, r + b, rfl, by rw [HB2.out], HX.out, d2, d3, z2, HC2.out⟩, by simp [intOf]; omega⟩
      · have hPN : N < P := by
          have := HSS.out
          by_cases k : N < P
          · exact k
          · unfold sg at this; by_cases k' : P < N
            · rw [if_pos k'] at this; omega
            · rw [if_neg k', if_neg k] at this; omega
        have HX := Lib.hid (HN.out hPN)
        clear hPN HN HY HSS
        go_wp2_with fail
        exact ⟨⟨e, r, rfl, by rw [HB2.out], HX.out, d2, d3, z2, HC2.out⟩, by simp [intOf]; omega⟩
end Go.Proofs.Ytodigegjngnknaa.X
