/- Contracts of functions of the program and of its reference, out of walks. Their conditions stand ahead of each. -/
import Derived.Test.YtgehbebjgmeccaaW4
import Derived.Test.YtgehbebjgmeccaaM1
import Derived.Test.YtgehbebjgmeccaaM2
import Derived.Laws.Externs
set_option linter.unusedVariables false
set_option linter.unusedSimpArgs false
namespace Go.Proofs.Ytgehbebjgmeccaa
open Go.RowKit
theorem mul64_any (x y : Int) (hx : 0 ≤ x ∧ x < 18446744073709551616) (hy : 0 ≤ y ∧ y < 18446744073709551616) (w : World) :
    Calls Try.prog 133 #[.int .u64 x, .int .u64 y] w fun e w' => e = .returned (.tuple #[.int .u64 (x * y / 18446744073709551616), .int .u64 (x * y % 18446744073709551616)]) ∧ w = w' := by
  obtain ⟨hx0, hx1⟩ := hx
  obtain ⟨hy0, hy1⟩ := hy
  go_enter Try.func133, Try.ntmps133
  go_wp2_with fail
  simp only [K.u64and32 x hx0 hx1, K.u64and32 y hy0 hy1, IntKind.wrap_u64]
  have e1 : ∀ z : Int, bits BinOp.and IntKind.u64 (z % 18446744073709551616) 4294967295 = z % 18446744073709551616 % 4294967296 := fun z => K.u64and32 _ (by omega) (by omega)
  simp only [e1]
  have hh := K.mul_hi x y ⟨hx0, hx1⟩ ⟨hy0, hy1⟩
  simp only at hh
  rw [hh]
  go_ret2
  exact ⟨rfl, rfl⟩
def az (a : Int) : Int := if a < 0 then -a else a
theorem az_bd (a : Int) (h : -9223372036854775808 ≤ a) (h' : a ≤ 9223372036854775807) : 0 ≤ az a ∧ az a ≤ 9223372036854775808 := by unfold az; split <;> omega
theorem ret_u64 {a b : Int} (h : a = b) : Ending.returned (.int .u64 a) = .returned (.int .u64 b) := by rw [h]
theorem size_any (a : Int) (h : -9223372036854775808 ≤ a) (h' : a ≤ 9223372036854775807) (w : World) :
    Calls Try.prog 144 #[.int .i64 a] w fun e w' => e = .returned (.int .u64 (az a)) ∧ w = w' := by
  by_cases g : a < 0
  · go_enter Try.func144, Try.ntmps144
    go_wp2_with fail
    go_ret
    exact ⟨ret_u64 (by unfold az; rw [if_pos g]; simp only [IntKind.wrap_u64]; omega), rfl⟩
  · go_enter Try.func144, Try.ntmps144
    go_wp2_with fail
    go_ret
    exact ⟨ret_u64 (by unfold az; rw [if_neg (by omega)]), rfl⟩
theorem times_any (x y : Int) (hx : 0 ≤ x ∧ x < 18446744073709551616) (hy : 0 ≤ y ∧ y < 18446744073709551616) (w : World) :
    Calls Try.prog 143 #[.int .u64 x, .int .u64 y] w fun e w' => e = .returned (.agg #[.int .u64 (x * y / 18446744073709551616), .int .u64 (x * y % 18446744073709551616)]) ∧ Below w.heap.size w w' := by
  go_enter Try.func143, Try.ntmps143
  go_wp2_with fail
  refine (mul64_any x y hx hy _).mono ?_
  rintro e w1 ⟨rfl, rfl⟩
  go_wp2_with fail
  refine bodyPost_ret (v := .agg #[.int .u64 (x * y / 18446744073709551616), .int .u64 (x * y % 18446744073709551616)]) (by simp [results, Try.results143, go_sem]) rfl ⟨rfl, ?_⟩
  exact (Below.refl _ _).alloc (Nat.le_refl _) _
theorem add64 (x y c : Int) (hx : 0 ≤ x) (hy : 0 ≤ y) (hc0 : 0 ≤ c) (hc : c ≤ 1) (w : World) : (callFunc 156 #[.int .u64 x, .int .u64 y, .int .u64 c]).run Try.prog w =
    .ok (.value (.tuple #[.int .u64 ((x + y + c) % 18446744073709551616), .int .u64 ((x + y + c) / 18446744073709551616)])) w := by
  rw [run_callFunc_extern Try.func156 (by kernel_rfl) (by kernel_rfl) (by kernel_rfl) (e := add64Entry) (by kernel_rfl), run_add64 x y c hx hy hc0 hc]
  rfl
theorem add64_0 (x y : Int) (hx : 0 ≤ x) (hy : 0 ≤ y) (w : World) : (callFunc 156 #[.int .u64 x, .int .u64 y, .int .u64 0]).run Try.prog w =
    .ok (.value (.tuple #[.int .u64 ((x + y) % 18446744073709551616), .int .u64 ((x + y) / 18446744073709551616)])) w := by
  simpa using add64 x y 0 hx hy (Int.le_refl 0) (by decide) w
theorem plus1_any (hi lo x : Int) (l0 : 0 ≤ lo) (x0 : 0 ≤ x) (w : World) :
    Calls Try.prog 155 #[.agg #[.int .u64 hi, .int .u64 lo], .int .u64 x] w fun e w' => e = .returned (.agg #[.int .u64 ((hi + (lo + x) / 18446744073709551616) % 18446744073709551616), .int .u64 ((lo + x) % 18446744073709551616)]) ∧ Below w.heap.size w w' := by
  have a0 := fun w => add64_0 lo x l0 x0 w
  have A0 := Lib.hid a0
  clear a0
  generalize hq : (lo + x) / 18446744073709551616 = q at *
  generalize hr : (lo + x) % 18446744073709551616 = r at *
  have e : IntKind.u64.wrap (hi + q) = (hi + q) % 18446744073709551616 := IntKind.wrap_u64 _
  generalize hs : (hi + q) % 18446744073709551616 = s at *
  clear hq hr hs
  go_enter Try.func155, Try.ntmps155
  go_wp2_with (simp only [A0.out])
  refine bodyPost_ret (v := .agg #[.int .u64 s, .int .u64 r]) (by simp [results, Try.results155, go_sem]) rfl ⟨rfl, ?_⟩
  exact ((Below.refl _ _).alloc (Nat.le_refl _) _).alloc (by simp) _
theorem prod_plain (a b : Int) (ha : -9223372036854775808 ≤ a ∧ a ≤ 9223372036854775807) (hb : -9223372036854775808 ≤ b ∧ b ≤ 9223372036854775807) :
    (¬ ((a < 0) ↔ (b < 0)) → az a * az b = -(a * b) ∧ 0 ≤ -(a * b)) ∧ (((a < 0) ↔ (b < 0)) → az a * az b = a * b ∧ 0 ≤ a * b) ∧ 0 ≤ az a * az b ∧ az a * az b ≤ 85070591730234615865843651857942052864 := by
  have h1 := az_bd a ha.1 ha.2
  have h2 := az_bd b hb.1 hb.2
  have p0 := Int.mul_nonneg h1.1 h2.1
  have p1 := Int.mul_le_mul h1.2 h2.2 h2.1 (by omega)
  refine ⟨?_, ?_, p0, by simpa using p1⟩
  · intro h
    have e : az a * az b = -(a * b) := by
      unfold az
      by_cases g : a < 0 <;> by_cases g' : b < 0 <;> simp [g, g', Int.neg_mul, Int.mul_neg, Int.neg_neg] at h ⊢
    exact ⟨e, by omega⟩
  · intro h
    have e : az a * az b = a * b := by
      unfold az
      by_cases g : a < 0 <;> by_cases g' : b < 0 <;> simp [g, g', Int.neg_mul, Int.mul_neg, Int.neg_neg] at h ⊢
    exact ⟨e, by omega⟩
theorem neg_plain (p : Int) (h : 0 ≤ -p) (h' : -p ≤ 85070591730234615865843651857942052864) :
    0 ≤ -p / 18446744073709551616 ∧ -p / 18446744073709551616 ≤ 4611686018427387904 ∧ 0 ≤ -p % 18446744073709551616 ∧ -p % 18446744073709551616 < 18446744073709551616 := by omega
theorem neg_wide (p H L : Int) (hH : -p / 18446744073709551616 = H) (hL : -p % 18446744073709551616 = L) (h : 0 ≤ -p) (h' : -p ≤ 85070591730234615865843651857942052864) :
    0 ≤ (18446744073709551615 - H + (18446744073709551615 - L + 1) / 18446744073709551616) % 18446744073709551616 ∧
    (18446744073709551615 - H + (18446744073709551615 - L + 1) / 18446744073709551616) % 18446744073709551616 < 18446744073709551616 ∧
    0 ≤ (18446744073709551615 - L + 1) % 18446744073709551616 ∧ (18446744073709551615 - L + 1) % 18446744073709551616 < 18446744073709551616 ∧
    p / 18446744073709551616 = wrap64 ((18446744073709551615 - H + (18446744073709551615 - L + 1) / 18446744073709551616) % 18446744073709551616) ∧
    p % 18446744073709551616 = (18446744073709551615 - L + 1) % 18446744073709551616 := by
  unfold wrap64; omega
theorem prod_any (a b : Int) (ha : -9223372036854775808 ≤ a ∧ a ≤ 9223372036854775807) (hb : -9223372036854775808 ≤ b ∧ b ≤ 9223372036854775807) (w : World) :
    Calls Try.prog 95 #[.int .i64 a, .int .i64 b] w fun e w' => e = .returned (.agg #[.int .i64 (a * b / 18446744073709551616), .int .u64 (a * b % 18446744073709551616)]) ∧ Below w.heap.size w w' := by
  obtain ⟨P1, P2, p0, p1⟩ := prod_plain a b ha hb
  have A := az_bd a ha.1 ha.2
  have B := az_bd b hb.1 hb.2
  have AZ := Lib.hid A
  have BZ := Lib.hid B
  clear A B
  obtain ⟨ha0, ha1⟩ := ha
  obtain ⟨hb0, hb1⟩ := hb
  have PP1 := Lib.hid P1
  have PP2 := Lib.hid P2
  clear P1 P2
  by_cases g : a < 0 <;> by_cases g' : b < 0
  · have hp := PP2.out (by omega)
    have tA : decide (a < 0) = true := by simpa using g
    have tB : decide (b < 0) = true := by simpa using g'
    clear g g'
    go_enter Try.func95, Try.ntmps95
    go_wp2_with fail
    refine (size_any a ha0 ha1 _).mono ?_
    rintro e w1 ⟨rfl, rfl⟩
    go_wp2_with fail
    refine (size_any b hb0 hb1 _).mono ?_
    rintro e w1 ⟨rfl, rfl⟩
    go_wp2_with fail
    refine (times_any _ _ ⟨AZ.out.1, by have := AZ.out.2; omega⟩ ⟨BZ.out.1, by have := BZ.out.2; omega⟩ _).mono ?_
    rintro e w1 ⟨rfl, hb⟩
    obtain ⟨c1, f1, z1⟩ := step2 (b := w.heap.size) hb (by simp)
    have r0 := (c1 0).trans (show _ = some (.int .i64 0) by simp [go_sem])
    have r1 := (c1 1).trans (show _ = some (.int .u64 0) by simp [go_sem])
    have s0 := (f1 0).trans (show _ = false by simp [go_sem])
    have s1 := (f1 1).trans (show _ = false by simp [go_sem])
    have HB := Lib.hid (((Below.refl w.heap.size w).alloc (Nat.le_refl _) (.cells #[.int .i64 0, .int .u64 0] 62)).trans (hb.mono (by simp)))
    clear hb c1 f1
    obtain ⟨hpe, hp0⟩ := hp
    rw [hpe] at p0 p1 ⊢
    have i0 : 0 ≤ a * b / 18446744073709551616 := by omega
    have i1 : a * b / 18446744073709551616 ≤ 4611686018427387904 := by omega
    clear hpe hp0 p0 p1
    generalize hH : a * b / 18446744073709551616 = H at *
    generalize hL : a * b % 18446744073709551616 = L at *
    have HH := Lib.hid hH
    have HL := Lib.hid hL
    clear hH hL
    go_wp2_with fail
    rw [HH.out, HL.out]
    refine bodyPost_ret (v := .agg #[.int .i64 H, .int .u64 L]) (by simp [results, Try.results95, go_sem, r0, r1, s0, s1, z1]) rfl ⟨rfl, ?_⟩
    exact ((HB.out.setCell (Nat.le_refl _) _).setCell (Nat.le_refl _) _).alloc (by simp; omega) _
  · have hp := PP1.out (by omega)
    have tA : decide (a < 0) = true := by simpa using g
    have tB : decide (b < 0) = false := by simpa using g'
    clear g g'
    go_enter Try.func95, Try.ntmps95
    go_wp2_with fail
    refine (size_any a ha0 ha1 _).mono ?_
    rintro e w1 ⟨rfl, rfl⟩
    go_wp2_with fail
    refine (size_any b hb0 hb1 _).mono ?_
    rintro e w1 ⟨rfl, rfl⟩
    go_wp2_with fail
    refine (times_any _ _ ⟨AZ.out.1, by have := AZ.out.2; omega⟩ ⟨BZ.out.1, by have := BZ.out.2; omega⟩ _).mono ?_
    rintro e w1 ⟨rfl, hb⟩
    obtain ⟨c1, f1, z1⟩ := step2 (b := w.heap.size) hb (by simp)
    have r0 := (c1 0).trans (show _ = some (.int .i64 0) by simp [go_sem])
    have r1 := (c1 1).trans (show _ = some (.int .u64 0) by simp [go_sem])
    have s0 := (f1 0).trans (show _ = false by simp [go_sem])
    have s1 := (f1 1).trans (show _ = false by simp [go_sem])
    have HB := Lib.hid (((Below.refl w.heap.size w).alloc (Nat.le_refl _) (.cells #[.int .i64 0, .int .u64 0] 62)).trans (hb.mono (by simp)))
    clear hb c1 f1
    obtain ⟨hpe, hp0⟩ := hp
    rw [hpe] at p0 p1 ⊢
    obtain ⟨n0, n1, n2, n3⟩ := neg_plain (a * b) hp0 p1
    clear hpe p0
    generalize hH : -(a * b) / 18446744073709551616 = H at *
    generalize hL : -(a * b) % 18446744073709551616 = L at *
    have HH := Lib.hid hH
    have HL := Lib.hid hL
    have HP := Lib.hid (And.intro hp0 p1)
    clear hH hL hp0 p1
    have tsg : IntKind.u64.signed = false := rfl
    have nH := K.u64not H n0 (by omega)
    have nL := K.u64not L n2 n3
    have m0 : 0 ≤ 18446744073709551615 - L := by omega
    have NN := Lib.hid (And.intro n1 n3)
    clear n1 n3
    go_wp2_with fail
    refine (plus1_any _ _ 1 m0 (by omega) _).mono ?_
    rintro e w2 ⟨rfl, hb⟩
    obtain ⟨c1, f1, z2⟩ := step2 (b := w.heap.size) hb (by simp; omega)
    have q0 := (c1 0).trans (show _ = some (.int .i64 0) by simp [go_sem, z1, r0])
    have q1 := (c1 1).trans (show _ = some (.int .u64 0) by simp [go_sem, z1, r1])
    have t0 := (f1 0).trans (show _ = false by simp [go_sem, z1, s0])
    have t1 := (f1 1).trans (show _ = false by simp [go_sem, z1, s1])
    have HC := Lib.hid ((HB.out.alloc (Nat.le_of_lt z1) (.cells #[.int .u64 H, .int .u64 L] 117)).trans (hb.mono (by simp; omega)))
    obtain ⟨c2, f2, z3⟩ := step2 (b := w1.heap.size) hb (by simp)
    have u0 := (c2 0).trans (show _ = some (.int .u64 H) by simp [go_sem])
    have u1 := (c2 1).trans (show _ = some (.int .u64 L) by simp [go_sem])
    have v0 := (f2 0).trans (show _ = false by simp [go_sem])
    have v1 := (f2 1).trans (show _ = false by simp [go_sem])
    have ne : w1.heap.size ≠ w.heap.size := by omega
    have ne' : w.heap.size ≠ w1.heap.size := by omega
    clear hb c1 f1 r0 r1 s0 s1 z1 c2 f2
    obtain ⟨k0, k1, k2, k3, k4, k5⟩ := neg_wide (a * b) H L HH.out HL.out HP.out.1 HP.out.2
    generalize (18446744073709551615 - H + (18446744073709551615 - L + 1) / 18446744073709551616) % 18446744073709551616 = H' at *
    generalize (18446744073709551615 - L + 1) % 18446744073709551616 = L' at *
    have K4 := Lib.hid k4
    have K5 := Lib.hid k5
    clear k4 k5
    go_wp2_with fail
    rw [K4.out, K5.out]
    refine bodyPost_ret (v := .agg #[.int .i64 (wrap64 H'), .int .u64 L']) (by simp [results, Try.results95, go_sem, q0, q1, ne, ne']) rfl ⟨rfl, ?_⟩
    exact (((HC.out.setCell HB.out.size _).setCell HB.out.size _).setCell (Nat.le_refl _) _).setCell (Nat.le_refl _) _
  · have hp := PP1.out (by omega)
    have tA : decide (a < 0) = false := by simpa using g
    have tB : decide (b < 0) = true := by simpa using g'
    clear g g'
    go_enter Try.func95, Try.ntmps95
    go_wp2_with fail
    refine (size_any a ha0 ha1 _).mono ?_
    rintro e w1 ⟨rfl, rfl⟩
    go_wp2_with fail
    refine (size_any b hb0 hb1 _).mono ?_
    rintro e w1 ⟨rfl, rfl⟩
    go_wp2_with fail
    refine (times_any _ _ ⟨AZ.out.1, by have := AZ.out.2; omega⟩ ⟨BZ.out.1, by have := BZ.out.2; omega⟩ _).mono ?_
    rintro e w1 ⟨rfl, hb⟩
    obtain ⟨c1, f1, z1⟩ := step2 (b := w.heap.size) hb (by simp)
    have r0 := (c1 0).trans (show _ = some (.int .i64 0) by simp [go_sem])
    have r1 := (c1 1).trans (show _ = some (.int .u64 0) by simp [go_sem])
    have s0 := (f1 0).trans (show _ = false by simp [go_sem])
    have s1 := (f1 1).trans (show _ = false by simp [go_sem])
    have HB := Lib.hid (((Below.refl w.heap.size w).alloc (Nat.le_refl _) (.cells #[.int .i64 0, .int .u64 0] 62)).trans (hb.mono (by simp)))
    clear hb c1 f1
    obtain ⟨hpe, hp0⟩ := hp
    rw [hpe] at p0 p1 ⊢
    obtain ⟨n0, n1, n2, n3⟩ := neg_plain (a * b) hp0 p1
    clear hpe p0
    generalize hH : -(a * b) / 18446744073709551616 = H at *
    generalize hL : -(a * b) % 18446744073709551616 = L at *
    have HH := Lib.hid hH
    have HL := Lib.hid hL
    have HP := Lib.hid (And.intro hp0 p1)
    clear hH hL hp0 p1
    have tsg : IntKind.u64.signed = false := rfl
    have nH := K.u64not H n0 (by omega)
    have nL := K.u64not L n2 n3
    have m0 : 0 ≤ 18446744073709551615 - L := by omega
    have NN := Lib.hid (And.intro n1 n3)
    clear n1 n3
    go_wp2_with fail
    refine (plus1_any _ _ 1 m0 (by omega) _).mono ?_
    rintro e w2 ⟨rfl, hb⟩
    obtain ⟨c1, f1, z2⟩ := step2 (b := w.heap.size) hb (by simp; omega)
    have q0 := (c1 0).trans (show _ = some (.int .i64 0) by simp [go_sem, z1, r0])
    have q1 := (c1 1).trans (show _ = some (.int .u64 0) by simp [go_sem, z1, r1])
    have t0 := (f1 0).trans (show _ = false by simp [go_sem, z1, s0])
    have t1 := (f1 1).trans (show _ = false by simp [go_sem, z1, s1])
    have HC := Lib.hid ((HB.out.alloc (Nat.le_of_lt z1) (.cells #[.int .u64 H, .int .u64 L] 117)).trans (hb.mono (by simp; omega)))
    obtain ⟨c2, f2, z3⟩ := step2 (b := w1.heap.size) hb (by simp)
    have u0 := (c2 0).trans (show _ = some (.int .u64 H) by simp [go_sem])
    have u1 := (c2 1).trans (show _ = some (.int .u64 L) by simp [go_sem])
    have v0 := (f2 0).trans (show _ = false by simp [go_sem])
    have v1 := (f2 1).trans (show _ = false by simp [go_sem])
    have ne : w1.heap.size ≠ w.heap.size := by omega
    have ne' : w.heap.size ≠ w1.heap.size := by omega
    clear hb c1 f1 r0 r1 s0 s1 z1 c2 f2
    obtain ⟨k0, k1, k2, k3, k4, k5⟩ := neg_wide (a * b) H L HH.out HL.out HP.out.1 HP.out.2
    generalize (18446744073709551615 - H + (18446744073709551615 - L + 1) / 18446744073709551616) % 18446744073709551616 = H' at *
    generalize (18446744073709551615 - L + 1) % 18446744073709551616 = L' at *
    have K4 := Lib.hid k4
    have K5 := Lib.hid k5
    clear k4 k5
    go_wp2_with fail
    rw [K4.out, K5.out]
    refine bodyPost_ret (v := .agg #[.int .i64 (wrap64 H'), .int .u64 L']) (by simp [results, Try.results95, go_sem, q0, q1, ne, ne']) rfl ⟨rfl, ?_⟩
    exact (((HC.out.setCell HB.out.size _).setCell HB.out.size _).setCell (Nat.le_refl _) _).setCell (Nat.le_refl _) _
  · have hp := PP2.out (by omega)
    have tA : decide (a < 0) = false := by simpa using g
    have tB : decide (b < 0) = false := by simpa using g'
    clear g g'
    go_enter Try.func95, Try.ntmps95
    go_wp2_with fail
    refine (size_any a ha0 ha1 _).mono ?_
    rintro e w1 ⟨rfl, rfl⟩
    go_wp2_with fail
    refine (size_any b hb0 hb1 _).mono ?_
    rintro e w1 ⟨rfl, rfl⟩
    go_wp2_with fail
    refine (times_any _ _ ⟨AZ.out.1, by have := AZ.out.2; omega⟩ ⟨BZ.out.1, by have := BZ.out.2; omega⟩ _).mono ?_
    rintro e w1 ⟨rfl, hb⟩
    obtain ⟨c1, f1, z1⟩ := step2 (b := w.heap.size) hb (by simp)
    have r0 := (c1 0).trans (show _ = some (.int .i64 0) by simp [go_sem])
    have r1 := (c1 1).trans (show _ = some (.int .u64 0) by simp [go_sem])
    have s0 := (f1 0).trans (show _ = false by simp [go_sem])
    have s1 := (f1 1).trans (show _ = false by simp [go_sem])
    have HB := Lib.hid (((Below.refl w.heap.size w).alloc (Nat.le_refl _) (.cells #[.int .i64 0, .int .u64 0] 62)).trans (hb.mono (by simp)))
    clear hb c1 f1
    obtain ⟨hpe, hp0⟩ := hp
    rw [hpe] at p0 p1 ⊢
    have i0 : 0 ≤ a * b / 18446744073709551616 := by omega
    have i1 : a * b / 18446744073709551616 ≤ 4611686018427387904 := by omega
    clear hpe hp0 p0 p1
    generalize hH : a * b / 18446744073709551616 = H at *
    generalize hL : a * b % 18446744073709551616 = L at *
    have HH := Lib.hid hH
    have HL := Lib.hid hL
    clear hH hL
    go_wp2_with fail
    rw [HH.out, HL.out]
    refine bodyPost_ret (v := .agg #[.int .i64 H, .int .u64 L]) (by simp [results, Try.results95, go_sem, r0, r1, s0, s1, z1]) rfl ⟨rfl, ?_⟩
    exact ((HB.out.setCell (Nat.le_refl _) _).setCell (Nat.le_refl _) _).alloc (by simp; omega) _
end Go.Proofs.Ytgehbebjgmeccaa
