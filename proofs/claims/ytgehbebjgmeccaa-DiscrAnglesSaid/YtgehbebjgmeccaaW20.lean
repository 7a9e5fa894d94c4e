/- Contracts of functions of the program and of its reference, out of walks. Their conditions stand ahead of each. -/
import Derived.Test.YtgehbebjgmeccaaW19
set_option linter.unusedVariables false
set_option linter.unusedSimpArgs false
namespace Go.Proofs.Ytgehbebjgmeccaa
open Go.RowKit
theorem sums_walk (a b c d s t : Int) (w : World) :
    Calls Try.prog 3 #[.agg #[.int .i64 a, .int .i64 b, .int .i64 c, .int .i64 d, .int .i64 s, .int .i64 t]] w fun e w' => e = .returned (.bool true) ∧ Below w.heap.size w w' := by
  go_enter Try.func3, Try.ntmps3
  go_wp2_with fail
  refine (Code_any a b c d s t _).mono ?_
  rintro e w1 ⟨rfl, hb⟩
  have c1_0 := (hb.cell (p := ⟨w.heap.size, 0, none⟩) (by simp)).trans (show _ = some (.int .i64 a) by simp [go_sem])
  have c1_1 := (hb.cell (p := ⟨w.heap.size, 1, none⟩) (by simp)).trans (show _ = some (.int .i64 b) by simp [go_sem])
  have c1_2 := (hb.cell (p := ⟨w.heap.size, 2, none⟩) (by simp)).trans (show _ = some (.int .i64 c) by simp [go_sem])
  have c1_3 := (hb.cell (p := ⟨w.heap.size, 3, none⟩) (by simp)).trans (show _ = some (.int .i64 d) by simp [go_sem])
  have c1_4 := (hb.cell (p := ⟨w.heap.size, 4, none⟩) (by simp)).trans (show _ = some (.int .i64 s) by simp [go_sem])
  have c1_5 := (hb.cell (p := ⟨w.heap.size, 5, none⟩) (by simp)).trans (show _ = some (.int .i64 t) by simp [go_sem])
  have z := hb.size
  simp only [World.size_alloc] at z
  have z1_0 : w.heap.size < w1.heap.size := by omega
  have HB1 := Lib.hid (((Below.refl w.heap.size w).alloc (Nat.le_refl _) (.cells #[.int .i64 a, .int .i64 b, .int .i64 c, .int .i64 d, .int .i64 s, .int .i64 t] 25)).trans (hb.mono (by simp)))
  clear hb z
  go_wp2_with fail
  refine (rCode_any a b c d s t _).mono ?_
  rintro e w2 ⟨rfl, hb⟩
  have c2_0 := (hb.cell (p := ⟨w.heap.size, 0, none⟩) z1_0).trans c1_0
  have c2_1 := (hb.cell (p := ⟨w.heap.size, 1, none⟩) z1_0).trans c1_1
  have c2_2 := (hb.cell (p := ⟨w.heap.size, 2, none⟩) z1_0).trans c1_2
  have c2_3 := (hb.cell (p := ⟨w.heap.size, 3, none⟩) z1_0).trans c1_3
  have c2_4 := (hb.cell (p := ⟨w.heap.size, 4, none⟩) z1_0).trans c1_4
  have c2_5 := (hb.cell (p := ⟨w.heap.size, 5, none⟩) z1_0).trans c1_5
  have z2_0 : w.heap.size < w2.heap.size := Nat.lt_of_lt_of_le z1_0 hb.size
  have HB2 := Lib.hid (HB1.out.trans (hb.mono (Nat.le_of_lt z1_0)))
  clear hb c1_0 c1_1 c1_2 c1_3 c1_4 c1_5 z1_0
  go_wp2_with fail
  refine (Full_any c d _).mono ?_
  rintro e w3 ⟨rfl, hb⟩
  have c3_0 := (hb.cell (p := ⟨w.heap.size, 0, none⟩) z2_0).trans c2_0
  have c3_1 := (hb.cell (p := ⟨w.heap.size, 1, none⟩) z2_0).trans c2_1
  have c3_2 := (hb.cell (p := ⟨w.heap.size, 2, none⟩) z2_0).trans c2_2
  have c3_3 := (hb.cell (p := ⟨w.heap.size, 3, none⟩) z2_0).trans c2_3
  have c3_4 := (hb.cell (p := ⟨w.heap.size, 4, none⟩) z2_0).trans c2_4
  have c3_5 := (hb.cell (p := ⟨w.heap.size, 5, none⟩) z2_0).trans c2_5
  have z3_0 : w.heap.size < w3.heap.size := Nat.lt_of_lt_of_le z2_0 hb.size
  have HB3 := Lib.hid (HB2.out.trans (hb.mono (Nat.le_of_lt z2_0)))
  clear hb c2_0 c2_1 c2_2 c2_3 c2_4 c2_5 z2_0
  go_wp2_with fail
  refine (rFull_any c d _).mono ?_
  rintro e w4 ⟨rfl, hb⟩
  have c4_0 := (hb.cell (p := ⟨w.heap.size, 0, none⟩) z3_0).trans c3_0
  have c4_1 := (hb.cell (p := ⟨w.heap.size, 1, none⟩) z3_0).trans c3_1
  have c4_2 := (hb.cell (p := ⟨w.heap.size, 2, none⟩) z3_0).trans c3_2
  have c4_3 := (hb.cell (p := ⟨w.heap.size, 3, none⟩) z3_0).trans c3_3
  have c4_4 := (hb.cell (p := ⟨w.heap.size, 4, none⟩) z3_0).trans c3_4
  have c4_5 := (hb.cell (p := ⟨w.heap.size, 5, none⟩) z3_0).trans c3_5
  have z4_0 : w.heap.size < w4.heap.size := Nat.lt_of_lt_of_le z3_0 hb.size
  have HB4 := Lib.hid (HB3.out.trans (hb.mono (Nat.le_of_lt z3_0)))
  clear hb c3_0 c3_1 c3_2 c3_3 c3_4 c3_5 z3_0
  go_wp2_with fail
  refine (Half_any c d _).mono ?_
  rintro e w5 ⟨rfl, hb⟩
  have c5_0 := (hb.cell (p := ⟨w.heap.size, 0, none⟩) z4_0).trans c4_0
  have c5_1 := (hb.cell (p := ⟨w.heap.size, 1, none⟩) z4_0).trans c4_1
  have c5_2 := (hb.cell (p := ⟨w.heap.size, 2, none⟩) z4_0).trans c4_2
  have c5_3 := (hb.cell (p := ⟨w.heap.size, 3, none⟩) z4_0).trans c4_3
  have c5_4 := (hb.cell (p := ⟨w.heap.size, 4, none⟩) z4_0).trans c4_4
  have c5_5 := (hb.cell (p := ⟨w.heap.size, 5, none⟩) z4_0).trans c4_5
  have z5_0 : w.heap.size < w5.heap.size := Nat.lt_of_lt_of_le z4_0 hb.size
  have HB5 := Lib.hid (HB4.out.trans (hb.mono (Nat.le_of_lt z4_0)))
  clear hb c4_0 c4_1 c4_2 c4_3 c4_4 c4_5 z4_0
  go_wp2_with fail
  refine (rHalf_any c d _).mono ?_
  rintro e w6 ⟨rfl, hb⟩
  have c6_0 := (hb.cell (p := ⟨w.heap.size, 0, none⟩) z5_0).trans c5_0
  have c6_1 := (hb.cell (p := ⟨w.heap.size, 1, none⟩) z5_0).trans c5_1
  have c6_2 := (hb.cell (p := ⟨w.heap.size, 2, none⟩) z5_0).trans c5_2
  have c6_3 := (hb.cell (p := ⟨w.heap.size, 3, none⟩) z5_0).trans c5_3
  have c6_4 := (hb.cell (p := ⟨w.heap.size, 4, none⟩) z5_0).trans c5_4
  have c6_5 := (hb.cell (p := ⟨w.heap.size, 5, none⟩) z5_0).trans c5_5
  have z6_0 : w.heap.size < w6.heap.size := Nat.lt_of_lt_of_le z5_0 hb.size
  have HB6 := Lib.hid (HB5.out.trans (hb.mono (Nat.le_of_lt z5_0)))
  clear hb c5_0 c5_1 c5_2 c5_3 c5_4 c5_5 z5_0
  go_wp2_with fail
  refine (Lock_any c d _).mono ?_
  rintro e w7 ⟨rfl, hb⟩
  have c7_0 := (hb.cell (p := ⟨w.heap.size, 0, none⟩) z6_0).trans c6_0
  have c7_1 := (hb.cell (p := ⟨w.heap.size, 1, none⟩) z6_0).trans c6_1
  have c7_2 := (hb.cell (p := ⟨w.heap.size, 2, none⟩) z6_0).trans c6_2
  have c7_3 := (hb.cell (p := ⟨w.heap.size, 3, none⟩) z6_0).trans c6_3
  have c7_4 := (hb.cell (p := ⟨w.heap.size, 4, none⟩) z6_0).trans c6_4
  have c7_5 := (hb.cell (p := ⟨w.heap.size, 5, none⟩) z6_0).trans c6_5
  have z7_0 : w.heap.size < w7.heap.size := Nat.lt_of_lt_of_le z6_0 hb.size
  have HB7 := Lib.hid (HB6.out.trans (hb.mono (Nat.le_of_lt z6_0)))
  clear hb c6_0 c6_1 c6_2 c6_3 c6_4 c6_5 z6_0
  go_wp2_with fail
  refine (rLock_any c d _).mono ?_
  rintro e w8 ⟨rfl, hb⟩
  have c8_0 := (hb.cell (p := ⟨w.heap.size, 0, none⟩) z7_0).trans c7_0
  have c8_1 := (hb.cell (p := ⟨w.heap.size, 1, none⟩) z7_0).trans c7_1
  have c8_2 := (hb.cell (p := ⟨w.heap.size, 2, none⟩) z7_0).trans c7_2
  have c8_3 := (hb.cell (p := ⟨w.heap.size, 3, none⟩) z7_0).trans c7_3
  have c8_4 := (hb.cell (p := ⟨w.heap.size, 4, none⟩) z7_0).trans c7_4
  have c8_5 := (hb.cell (p := ⟨w.heap.size, 5, none⟩) z7_0).trans c7_5
  have z8_0 : w.heap.size < w8.heap.size := Nat.lt_of_lt_of_le z7_0 hb.size
  have HB8 := Lib.hid (HB7.out.trans (hb.mono (Nat.le_of_lt z7_0)))
  clear hb c7_0 c7_1 c7_2 c7_3 c7_4 c7_5 z7_0
  go_wp2_with fail
  refine (awake_any _).mono ?_
  rintro e w9 ⟨rfl, hb⟩
  have c9_0 := (hb.cell (p := ⟨w.heap.size, 0, none⟩) z8_0).trans c8_0
  have c9_1 := (hb.cell (p := ⟨w.heap.size, 1, none⟩) z8_0).trans c8_1
  have c9_2 := (hb.cell (p := ⟨w.heap.size, 2, none⟩) z8_0).trans c8_2
  have c9_3 := (hb.cell (p := ⟨w.heap.size, 3, none⟩) z8_0).trans c8_3
  have c9_4 := (hb.cell (p := ⟨w.heap.size, 4, none⟩) z8_0).trans c8_4
  have c9_5 := (hb.cell (p := ⟨w.heap.size, 5, none⟩) z8_0).trans c8_5
  have z9_0 : w.heap.size < w9.heap.size := Nat.lt_of_lt_of_le z8_0 hb.size
  have HB9 := Lib.hid (HB8.out.trans (hb.mono (Nat.le_of_lt z8_0)))
  clear hb c8_0 c8_1 c8_2 c8_3 c8_4 c8_5 z8_0
  go_wp2_with fail
  go_ret
  exact ⟨rfl, HB9.out⟩
theorem rates_walk (a b c d : Int) (w : World) :
    Calls Try.prog 4 #[.agg #[.int .i64 a, .int .i64 b], .agg #[.int .i64 c, .int .i64 d]] w fun e w' => e = .returned (.bool true) ∧ Below w.heap.size w w' := by
  go_enter Try.func4, Try.ntmps4
  go_wp2_with fail
  refine (Turn_any a b c d _).mono ?_
  rintro e w1 ⟨rfl, hb⟩
  have c1_0 := (hb.cell (p := ⟨w.heap.size, 0, none⟩) (by simp; try omega)).trans (show _ = some (.int .i64 (a)) by simp [go_sem])
  have c1_1 := (hb.cell (p := ⟨w.heap.size, 1, none⟩) (by simp; try omega)).trans (show _ = some (.int .i64 (b)) by simp [go_sem])
  have c1_2 := (hb.cell (p := ⟨w.heap.size + 1, 0, none⟩) (by simp; try omega)).trans (show _ = some (.int .i64 (c)) by simp [go_sem])
  have c1_3 := (hb.cell (p := ⟨w.heap.size + 1, 1, none⟩) (by simp; try omega)).trans (show _ = some (.int .i64 (d)) by simp [go_sem])
  have zz := hb.size
  simp only [World.size_alloc] at zz
  have z1_0 : w.heap.size < w1.heap.size := by omega
  have z1_1 : w.heap.size + 1 < w1.heap.size := by omega
  have HB1 := Lib.hid ((((Below.refl w.heap.size w).alloc (Nat.le_refl _) (.cells #[.int .i64 a, .int .i64 b] 23)).alloc (by simp) (.cells #[.int .i64 c, .int .i64 d] 23)).trans (hb.mono (by simp; omega)))
  clear hb zz 
  go_wp2_with fail
  refine (rTurn_any a b c d _).mono ?_
  rintro e w2 ⟨rfl, hb⟩
  have c2_0 := (hb.cell (p := ⟨w.heap.size, 0, none⟩) (by simp; try omega)).trans (show _ = some (.int .i64 (a)) by go_simp)
  have c2_1 := (hb.cell (p := ⟨w.heap.size, 1, none⟩) (by simp; try omega)).trans (show _ = some (.int .i64 (b)) by go_simp)
  have c2_2 := (hb.cell (p := ⟨w.heap.size + 1, 0, none⟩) (by simp; try omega)).trans (show _ = some (.int .i64 (c)) by go_simp)
  have c2_3 := (hb.cell (p := ⟨w.heap.size + 1, 1, none⟩) (by simp; try omega)).trans (show _ = some (.int .i64 (d)) by go_simp)
  have c2_4 := (hb.cell (p := ⟨w1.heap.size, 0, none⟩) (by simp; try omega)).trans (show _ = some (.int .i64 (inV (In2 a b c d) (a * c + b * d))) by go_simp)
  have c2_5 := (hb.cell (p := ⟨w1.heap.size, 1, none⟩) (by simp; try omega)).trans (show _ = some (.int .i64 (inV (In2 a b c d) (a * d - b * c))) by go_simp)
  have zz := hb.size
  simp only [World.size_alloc] at zz
  have z2_0 : w.heap.size < w2.heap.size := by omega
  have z2_1 : w.heap.size + 1 < w2.heap.size := by omega
  have z2_2 : w1.heap.size < w2.heap.size := by omega
  have HB2 := Lib.hid ((HB1.out.alloc (Nat.le_of_lt z1_0) (.cells #[.int .i64 (inV (In2 a b c d) (a * c + b * d)), .int .i64 (inV (In2 a b c d) (a * d - b * c))] 23)).trans (hb.mono (by simp; omega)))
  clear hb zz c1_0 c1_1 c1_2 c1_3 z1_0 z1_1
  go_wp2_with fail
  refine (Rate_any a b c d _).mono ?_
  rintro e w3 ⟨rfl, hb⟩
  have c3_0 := (hb.cell (p := ⟨w.heap.size, 0, none⟩) (by simp; try omega)).trans (show _ = some (.int .i64 (a)) by go_simp)
  have c3_1 := (hb.cell (p := ⟨w.heap.size, 1, none⟩) (by simp; try omega)).trans (show _ = some (.int .i64 (b)) by go_simp)
  have c3_2 := (hb.cell (p := ⟨w.heap.size + 1, 0, none⟩) (by simp; try omega)).trans (show _ = some (.int .i64 (c)) by go_simp)
  have c3_3 := (hb.cell (p := ⟨w.heap.size + 1, 1, none⟩) (by simp; try omega)).trans (show _ = some (.int .i64 (d)) by go_simp)
  have c3_4 := (hb.cell (p := ⟨w1.heap.size, 0, none⟩) (by simp; try omega)).trans (show _ = some (.int .i64 (inV (In2 a b c d) (a * c + b * d))) by go_simp)
  have c3_5 := (hb.cell (p := ⟨w1.heap.size, 1, none⟩) (by simp; try omega)).trans (show _ = some (.int .i64 (inV (In2 a b c d) (a * d - b * c))) by go_simp)
  have c3_6 := (hb.cell (p := ⟨w2.heap.size, 0, none⟩) (by simp; try omega)).trans (show _ = some (.int .i64 (inV (In2 a b c d) (a * c + b * d))) by go_simp)
  have c3_7 := (hb.cell (p := ⟨w2.heap.size, 1, none⟩) (by simp; try omega)).trans (show _ = some (.int .i64 (inV (In2 a b c d) (a * d - b * c))) by go_simp)
  have zz := hb.size
  simp only [World.size_alloc] at zz
  have z3_0 : w.heap.size < w3.heap.size := by omega
  have z3_1 : w.heap.size + 1 < w3.heap.size := by omega
  have z3_2 : w1.heap.size < w3.heap.size := by omega
  have z3_3 : w2.heap.size < w3.heap.size := by omega
  have HB3 := Lib.hid ((HB2.out.alloc (Nat.le_of_lt z2_0) (.cells #[.int .i64 (inV (In2 a b c d) (a * c + b * d)), .int .i64 (inV (In2 a b c d) (a * d - b * c))] 23)).trans (hb.mono (by simp; omega)))
  clear hb zz c2_0 c2_1 c2_2 c2_3 c2_4 c2_5 z2_0 z2_1 z2_2
  go_wp2_with fail
  refine (rRate_any a b c d _).mono ?_
  rintro e w4 ⟨rfl, hb⟩
  have c4_0 := (hb.cell (p := ⟨w.heap.size, 0, none⟩) z3_0).trans c3_0
  have c4_1 := (hb.cell (p := ⟨w.heap.size, 1, none⟩) z3_0).trans c3_1
  have c4_2 := (hb.cell (p := ⟨w.heap.size + 1, 0, none⟩) z3_1).trans c3_2
  have c4_3 := (hb.cell (p := ⟨w.heap.size + 1, 1, none⟩) z3_1).trans c3_3
  have c4_4 := (hb.cell (p := ⟨w1.heap.size, 0, none⟩) z3_2).trans c3_4
  have c4_5 := (hb.cell (p := ⟨w1.heap.size, 1, none⟩) z3_2).trans c3_5
  have c4_6 := (hb.cell (p := ⟨w2.heap.size, 0, none⟩) z3_3).trans c3_6
  have c4_7 := (hb.cell (p := ⟨w2.heap.size, 1, none⟩) z3_3).trans c3_7
  have zz := hb.size
  have z4_0 : w.heap.size < w4.heap.size := by omega
  have z4_1 : w.heap.size + 1 < w4.heap.size := by omega
  have z4_2 : w1.heap.size < w4.heap.size := by omega
  have z4_3 : w2.heap.size < w4.heap.size := by omega
  have HB4 := Lib.hid (HB3.out.trans (hb.mono (Nat.le_of_lt z3_0)))
  clear hb zz c3_0 c3_1 c3_2 c3_3 c3_4 c3_5 c3_6 c3_7 z3_0 z3_1 z3_2 z3_3
  go_wp2_with fail
  refine (HalfRate_any a b c d _).mono ?_
  rintro e w5 ⟨rfl, hb⟩
  have c5_0 := (hb.cell (p := ⟨w.heap.size, 0, none⟩) z4_0).trans c4_0
  have c5_1 := (hb.cell (p := ⟨w.heap.size, 1, none⟩) z4_0).trans c4_1
  have c5_2 := (hb.cell (p := ⟨w.heap.size + 1, 0, none⟩) z4_1).trans c4_2
  have c5_3 := (hb.cell (p := ⟨w.heap.size + 1, 1, none⟩) z4_1).trans c4_3
  have c5_4 := (hb.cell (p := ⟨w1.heap.size, 0, none⟩) z4_2).trans c4_4
  have c5_5 := (hb.cell (p := ⟨w1.heap.size, 1, none⟩) z4_2).trans c4_5
  have c5_6 := (hb.cell (p := ⟨w2.heap.size, 0, none⟩) z4_3).trans c4_6
  have c5_7 := (hb.cell (p := ⟨w2.heap.size, 1, none⟩) z4_3).trans c4_7
  have zz := hb.size
  have z5_0 : w.heap.size < w5.heap.size := by omega
  have z5_1 : w.heap.size + 1 < w5.heap.size := by omega
  have z5_2 : w1.heap.size < w5.heap.size := by omega
  have z5_3 : w2.heap.size < w5.heap.size := by omega
  have HB5 := Lib.hid (HB4.out.trans (hb.mono (Nat.le_of_lt z4_0)))
  clear hb zz c4_0 c4_1 c4_2 c4_3 c4_4 c4_5 c4_6 c4_7 z4_0 z4_1 z4_2 z4_3
  go_wp2_with fail
  refine (rHalfRate_any a b c d _).mono ?_
  rintro e w6 ⟨rfl, hb⟩
  have c6_0 := (hb.cell (p := ⟨w.heap.size, 0, none⟩) z5_0).trans c5_0
  have c6_1 := (hb.cell (p := ⟨w.heap.size, 1, none⟩) z5_0).trans c5_1
  have c6_2 := (hb.cell (p := ⟨w.heap.size + 1, 0, none⟩) z5_1).trans c5_2
  have c6_3 := (hb.cell (p := ⟨w.heap.size + 1, 1, none⟩) z5_1).trans c5_3
  have c6_4 := (hb.cell (p := ⟨w1.heap.size, 0, none⟩) z5_2).trans c5_4
  have c6_5 := (hb.cell (p := ⟨w1.heap.size, 1, none⟩) z5_2).trans c5_5
  have c6_6 := (hb.cell (p := ⟨w2.heap.size, 0, none⟩) z5_3).trans c5_6
  have c6_7 := (hb.cell (p := ⟨w2.heap.size, 1, none⟩) z5_3).trans c5_7
  have zz := hb.size
  have z6_0 : w.heap.size < w6.heap.size := by omega
  have z6_1 : w.heap.size + 1 < w6.heap.size := by omega
  have z6_2 : w1.heap.size < w6.heap.size := by omega
  have z6_3 : w2.heap.size < w6.heap.size := by omega
  have HB6 := Lib.hid (HB5.out.trans (hb.mono (Nat.le_of_lt z5_0)))
  clear hb zz c5_0 c5_1 c5_2 c5_3 c5_4 c5_5 c5_6 c5_7 z5_0 z5_1 z5_2 z5_3
  go_wp2_with fail
  refine (awake_any _).mono ?_
  rintro e w7 ⟨rfl, hb⟩
  have c7_0 := (hb.cell (p := ⟨w.heap.size, 0, none⟩) z6_0).trans c6_0
  have c7_1 := (hb.cell (p := ⟨w.heap.size, 1, none⟩) z6_0).trans c6_1
  have c7_2 := (hb.cell (p := ⟨w.heap.size + 1, 0, none⟩) z6_1).trans c6_2
  have c7_3 := (hb.cell (p := ⟨w.heap.size + 1, 1, none⟩) z6_1).trans c6_3
  have c7_4 := (hb.cell (p := ⟨w1.heap.size, 0, none⟩) z6_2).trans c6_4
  have c7_5 := (hb.cell (p := ⟨w1.heap.size, 1, none⟩) z6_2).trans c6_5
  have c7_6 := (hb.cell (p := ⟨w2.heap.size, 0, none⟩) z6_3).trans c6_6
  have c7_7 := (hb.cell (p := ⟨w2.heap.size, 1, none⟩) z6_3).trans c6_7
  have zz := hb.size
  have z7_0 : w.heap.size < w7.heap.size := by omega
  have z7_1 : w.heap.size + 1 < w7.heap.size := by omega
  have z7_2 : w1.heap.size < w7.heap.size := by omega
  have z7_3 : w2.heap.size < w7.heap.size := by omega
  have HB7 := Lib.hid (HB6.out.trans (hb.mono (Nat.le_of_lt z6_0)))
  clear hb zz c6_0 c6_1 c6_2 c6_3 c6_4 c6_5 c6_6 c6_7 z6_0 z6_1 z6_2 z6_3
  go_wp2_with fail
  go_ret
  exact ⟨rfl, HB7.out⟩
end Go.Proofs.Ytgehbebjgmeccaa
