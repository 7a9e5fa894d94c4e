/- Contracts of functions of the program and of its reference, out of walks. Their conditions stand ahead of each. -/
import Derived.Test.YtgehbebjgmeccaaW20
set_option linter.unusedVariables false
set_option linter.unusedSimpArgs false
namespace Go.Proofs.Ytgehbebjgmeccaa
open Go.RowKit
theorem lfull_yes (x y : Int) (w : World) (h : InB (x, y)) :
    Calls Try.prog 39 #[.int .i64 x, .int .i64 y] w fun e w' => e = .returned (.tuple #[.int .i64 (fullF (Ang.fineF x y)), .bool true]) ∧ Below w.heap.size w w' := by
  have H := Lib.hid h
  clear h
  go_enter Try.func39, Try.ntmps39
  go_wp2_with fail
  refine (Full_yes x y _ H.out).mono ?_
  rintro e w1 ⟨rfl, hb1⟩
  go_wp2_with fail
  go_ret2
  exact ⟨rfl, hb1⟩
theorem lhalf_yes (x y : Int) (w : World) (h : InB (x, y)) :
    Calls Try.prog 40 #[.int .i64 x, .int .i64 y] w fun e w' => e = .returned (.tuple #[.int .i64 (halfF (Ang.fineF x y)), .bool true]) ∧ Below w.heap.size w w' := by
  have H := Lib.hid h
  clear h
  go_enter Try.func40, Try.ntmps40
  go_wp2_with fail
  refine (Half_yes x y _ H.out).mono ?_
  rintro e w1 ⟨rfl, hb1⟩
  go_wp2_with fail
  go_ret2
  exact ⟨rfl, hb1⟩
theorem llock_yes (x y : Int) (w : World) (h : InB (x, y)) :
    Calls Try.prog 41 #[.int .i64 x, .int .i64 y] w fun e w' => e = .returned (.tuple #[.int .i64 (shareF (x * x - y * y) (x * x + y * y)), .bool true]) ∧ Below w.heap.size w w' := by
  have H := Lib.hid h
  clear h
  go_enter Try.func41, Try.ntmps41
  go_wp2_with fail
  refine (Lock_yes x y _ H.out).mono ?_
  rintro e w1 ⟨rfl, hb1⟩
  go_wp2_with fail
  go_ret2
  exact ⟨rfl, hb1⟩
theorem llock_no (x y : Int) (w : World) (h : ¬ InB (x, y)) :
    Calls Try.prog 41 #[.int .i64 x, .int .i64 y] w fun e w' => e = .returned (.tuple #[.int .i64 0, .bool false]) ∧ Below w.heap.size w w' := by
  have H := Lib.hid h
  clear h
  go_enter Try.func41, Try.ntmps41
  go_wp2_with fail
  refine (Lock_no x y _ H.out).mono ?_
  rintro e w1 ⟨rfl, hb1⟩
  go_wp2_with fail
  go_ret2
  exact ⟨rfl, hb1⟩
set_option maxRecDepth 100000 in
theorem known_any (w : World) :
    Calls Try.prog 5 #[] w fun e w' => e = .returned (.bool true) ∧ Below w.heap.size w w' := by
  have I_0_1 := Lib.hid (show InB (0, 1) by unfold InB; simp)
  have I_0_0 := Lib.hid (show InB (0, 0) by unfold InB; simp)
  have I_2_0 := Lib.hid (show InB (2, 0) by unfold InB; simp)
  have I_1_0 := Lib.hid (show InB (1, 0) by unfold InB; simp)
  have I_m1_0 := Lib.hid (show InB (-1, 0) by unfold InB; simp)
  have I_0_m1 := Lib.hid (show InB (0, -1) by unfold InB; simp)
  have I_3_0 := Lib.hid (show InB (3, 0) by unfold InB; simp)
  have I_0_5 := Lib.hid (show InB (0, 5) by unfold InB; simp)
  have I_1_1 := Lib.hid (show InB (1, 1) by unfold InB; simp)
  have I_bad := Lib.hid (show ¬ InB (1048577, 0) by unfold InB; simp)
  have E0 := Lib.hid (show codeF 0 1 2 0 = -614 by decide +kernel)
  have E1 := Lib.hid (show codeF 0 0 0 0 = 0 by decide +kernel)
  have E2 := Lib.hid (show codeF 1 0 1 0 = 0 by decide +kernel)
  have E3 := Lib.hid (show fullF (Ang.fineF (1) (0)) = 0 by decide +kernel)
  have E4 := Lib.hid (show fullF (Ang.fineF (0) (1)) = 1024 by decide +kernel)
  have E5 := Lib.hid (show fullF (Ang.fineF (-1) (0)) = -2048 by decide +kernel)
  have E6 := Lib.hid (show halfF (Ang.fineF (0) (1)) = -1024 by decide +kernel)
  have E7 := Lib.hid (show halfF (Ang.fineF (0) (-1)) = -1024 by decide +kernel)
  have E8 := Lib.hid (show halfF (Ang.fineF (-1) (0)) = 0 by decide +kernel)
  have E10 := Lib.hid (show fullF (Ang.fineF (0 * 1 + 1 * 0) (0 * 0 - 1 * 1)) = -1024 by decide +kernel)
  have E11 := Lib.hid (show halfF (Ang.fineF (0 * 1 + 1 * 0) (0 * 0 - 1 * 1)) = -1024 by decide +kernel)
  have E12 := Lib.hid (show fullF (Ang.fineF (0 * 1 + 0 * 0) (0 * 0 - 0 * 1)) = 0 by decide +kernel)
  have E13 := Lib.hid (show shareF ((3) * (3) - (0) * (0)) ((3) * (3) + (0) * (0)) = 1024 by decide +kernel)
  have E14 := Lib.hid (show shareF ((0) * (0) - (5) * (5)) ((0) * (0) + (5) * (5)) = -1024 by decide +kernel)
  have E15 := Lib.hid (show shareF ((1) * (1) - (1) * (1)) ((1) * (1) + (1) * (1)) = 0 by decide +kernel)
  have E16 := Lib.hid (show shareF ((0) * (0) - (0) * (0)) ((0) * (0) + (0) * (0)) = 0 by decide +kernel)
  go_enter Try.func5, Try.ntmps5
  go_wp2_with fail
  refine (Code_yes 0 1 0 0 2 0 _ I_0_1.out I_0_0.out I_2_0.out).mono ?_
  rintro e w1 ⟨rfl, hb⟩
  rw [E0.out]
  have HB1 := Lib.hid ((Below.refl w.heap.size w).trans (hb.mono ((Below.refl w.heap.size w).size)))
  clear hb
  go_wp2_with fail
  refine (Code_yes 0 0 0 0 0 0 _ I_0_0.out I_0_0.out I_0_0.out).mono ?_
  rintro e w2 ⟨rfl, hb⟩
  rw [E1.out]
  have HB2 := Lib.hid (HB1.out.trans (hb.mono (HB1.out.size)))
  clear hb
  go_wp2_with fail
  refine (Code_yes 1 0 0 0 1 0 _ I_1_0.out I_0_0.out I_1_0.out).mono ?_
  rintro e w3 ⟨rfl, hb⟩
  rw [E2.out]
  have HB3 := Lib.hid (HB2.out.trans (hb.mono (HB2.out.size)))
  clear hb
  go_wp2_with fail
  refine (lfull_yes (1) (0) _ I_1_0.out).mono ?_
  rintro e w4 ⟨rfl, hb⟩
  rw [E3.out]
  have HB4 := Lib.hid (HB3.out.trans (hb.mono (HB3.out.size)))
  clear hb
  go_wp2_with fail
  refine (lfull_yes (0) (1) _ I_0_1.out).mono ?_
  rintro e w5 ⟨rfl, hb⟩
  rw [E4.out]
  have HB5 := Lib.hid (HB4.out.trans (hb.mono (HB4.out.size)))
  clear hb
  go_wp2_with fail
  refine (lfull_yes (-1) (0) _ I_m1_0.out).mono ?_
  rintro e w6 ⟨rfl, hb⟩
  rw [E5.out]
  have HB6 := Lib.hid (HB5.out.trans (hb.mono (HB5.out.size)))
  clear hb
  go_wp2_with fail
  refine (lhalf_yes (0) (1) _ I_0_1.out).mono ?_
  rintro e w7 ⟨rfl, hb⟩
  rw [E6.out]
  have HB7 := Lib.hid (HB6.out.trans (hb.mono (HB6.out.size)))
  clear hb
  go_wp2_with fail
  refine (lhalf_yes (0) (-1) _ I_0_m1.out).mono ?_
  rintro e w8 ⟨rfl, hb⟩
  rw [E7.out]
  have HB8 := Lib.hid (HB7.out.trans (hb.mono (HB7.out.size)))
  clear hb
  go_wp2_with fail
  refine (lhalf_yes (-1) (0) _ I_m1_0.out).mono ?_
  rintro e w9 ⟨rfl, hb⟩
  rw [E8.out]
  have HB9 := Lib.hid (HB8.out.trans (hb.mono (HB8.out.size)))
  clear hb
  go_wp2_with fail
  refine (Turn_yes 0 1 1 0 _ I_0_1.out I_1_0.out).mono ?_
  rintro e w10 ⟨rfl, hb⟩
  have HB10 := Lib.hid (HB9.out.trans (hb.mono (HB9.out.size)))
  clear hb
  go_wp2_with fail
  refine (Rate_yes 0 1 1 0 _ I_0_1.out I_1_0.out).mono ?_
  rintro e w11 ⟨rfl, hb⟩
  rw [E10.out]
  have t0 := (hb.cell (p := ⟨w10.heap.size, 0, none⟩) (by simp)).trans (show _ = some (.int .i64 0) by simp [go_sem])
  have t1 := (hb.cell (p := ⟨w10.heap.size, 1, none⟩) (by simp)).trans (show _ = some (.int .i64 (-1)) by simp [go_sem])
  have zz := hb.size
  simp only [World.size_alloc] at zz
  have tz11 : w10.heap.size < w11.heap.size := by omega
  have HB11 := Lib.hid ((HB10.out.alloc HB10.out.size (.cells #[.int .i64 0, .int .i64 (-1)] 23)).trans (hb.mono (Nat.le_trans HB10.out.size (by simp))))
  clear hb zz
  go_wp2_with fail
  refine (HalfRate_yes 0 1 1 0 _ I_0_1.out I_1_0.out).mono ?_
  rintro e w12 ⟨rfl, hb⟩
  rw [E11.out]
  have t0' := (hb.cell (p := ⟨w10.heap.size, 0, none⟩) tz11).trans t0
  have t1' := (hb.cell (p := ⟨w10.heap.size, 1, none⟩) tz11).trans t1
  clear t0 t1
  have t0 := t0'
  have t1 := t1'
  clear t0' t1'
  have tz12 := Nat.lt_of_lt_of_le tz11 hb.size
  have HB12 := Lib.hid (HB11.out.trans (hb.mono (HB11.out.size)))
  clear hb
  go_wp2_with fail
  refine (Rate_yes 0 0 1 0 _ I_0_0.out I_1_0.out).mono ?_
  rintro e w13 ⟨rfl, hb⟩
  rw [E12.out]
  have t0' := (hb.cell (p := ⟨w10.heap.size, 0, none⟩) tz12).trans t0
  have t1' := (hb.cell (p := ⟨w10.heap.size, 1, none⟩) tz12).trans t1
  clear t0 t1
  have t0 := t0'
  have t1 := t1'
  clear t0' t1'
  have tz13 := Nat.lt_of_lt_of_le tz12 hb.size
  have HB13 := Lib.hid (HB12.out.trans (hb.mono (HB12.out.size)))
  clear hb
  go_wp2_with fail
  refine (llock_yes (3) (0) _ I_3_0.out).mono ?_
  rintro e w14 ⟨rfl, hb⟩
  rw [E13.out]
  have t0' := (hb.cell (p := ⟨w10.heap.size, 0, none⟩) tz13).trans t0
  have t1' := (hb.cell (p := ⟨w10.heap.size, 1, none⟩) tz13).trans t1
  clear t0 t1
  have t0 := t0'
  have t1 := t1'
  clear t0' t1'
  have tz14 := Nat.lt_of_lt_of_le tz13 hb.size
  have HB14 := Lib.hid (HB13.out.trans (hb.mono (HB13.out.size)))
  clear hb
  go_wp2_with fail
  refine (llock_yes (0) (5) _ I_0_5.out).mono ?_
  rintro e w15 ⟨rfl, hb⟩
  rw [E14.out]
  have t0' := (hb.cell (p := ⟨w10.heap.size, 0, none⟩) tz14).trans t0
  have t1' := (hb.cell (p := ⟨w10.heap.size, 1, none⟩) tz14).trans t1
  clear t0 t1
  have t0 := t0'
  have t1 := t1'
  clear t0' t1'
  have tz15 := Nat.lt_of_lt_of_le tz14 hb.size
  have HB15 := Lib.hid (HB14.out.trans (hb.mono (HB14.out.size)))
  clear hb
  go_wp2_with fail
  refine (llock_yes (1) (1) _ I_1_1.out).mono ?_
  rintro e w16 ⟨rfl, hb⟩
  rw [E15.out]
  have t0' := (hb.cell (p := ⟨w10.heap.size, 0, none⟩) tz15).trans t0
  have t1' := (hb.cell (p := ⟨w10.heap.size, 1, none⟩) tz15).trans t1
  clear t0 t1
  have t0 := t0'
  have t1 := t1'
  clear t0' t1'
  have tz16 := Nat.lt_of_lt_of_le tz15 hb.size
  have HB16 := Lib.hid (HB15.out.trans (hb.mono (HB15.out.size)))
  clear hb
  go_wp2_with fail
  refine (llock_yes (0) (0) _ I_0_0.out).mono ?_
  rintro e w17 ⟨rfl, hb⟩
  rw [E16.out]
  have t0' := (hb.cell (p := ⟨w10.heap.size, 0, none⟩) tz16).trans t0
  have t1' := (hb.cell (p := ⟨w10.heap.size, 1, none⟩) tz16).trans t1
  clear t0 t1
  have t0 := t0'
  have t1 := t1'
  clear t0' t1'
  have tz17 := Nat.lt_of_lt_of_le tz16 hb.size
  have HB17 := Lib.hid (HB16.out.trans (hb.mono (HB16.out.size)))
  clear hb
  go_wp2_with fail
  refine (llock_no 1048577 0 _ I_bad.out).mono ?_
  rintro e w18 ⟨rfl, hb⟩
  have t0' := (hb.cell (p := ⟨w10.heap.size, 0, none⟩) tz17).trans t0
  have t1' := (hb.cell (p := ⟨w10.heap.size, 1, none⟩) tz17).trans t1
  clear t0 t1
  have t0 := t0'
  have t1 := t1'
  clear t0' t1'
  have tz18 := Nat.lt_of_lt_of_le tz17 hb.size
  have HB18 := Lib.hid (HB17.out.trans (hb.mono (HB17.out.size)))
  clear hb
  go_wp2_with fail
  refine (awake_any _).mono ?_
  rintro e wz ⟨rfl, hb⟩
  have HZ := Lib.hid (HB18.out.trans (hb.mono (HB18.out.size)))
  clear hb
  go_wp2_with fail
  go_ret
  exact ⟨rfl, HZ.out⟩
end Go.Proofs.Ytgehbebjgmeccaa
