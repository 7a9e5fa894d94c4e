/- Contracts of functions of the program and of its reference, out of walks. Their conditions stand ahead of each. -/
import Derived.Test.YtgehbebjgmeccaaW24
set_option linter.unusedVariables false
set_option linter.unusedSimpArgs false
namespace Go.Proofs.Ytgehbebjgmeccaa
open Go.RowKit
theorem full_rot {x y : Int} (h : x ≠ 0 ∨ y ≠ 0) : (fullF (Ang.fineF (-y) x) - fullF (Ang.fineF x y) - 1024) % 4096 = 0 := by
  have e := Ang.fineF_rot h
  have b := Ang.fineF_bd x y
  unfold fullF; rw [e]; omega
theorem half_neg {x y : Int} (h : x ≠ 0 ∨ y ≠ 0) : halfF (Ang.fineF (-x) (-y)) = halfF (Ang.fineF x y) := by
  have e := Ang.fineF_neg h
  have b := Ang.fineF_bd x y
  unfold halfF; rw [e]; omega
theorem full_half (x y : Int) : (fullF (Ang.fineF x y) - halfF (Ang.fineF x y)) % 2048 = 0 := by
  unfold fullF halfF; omega
theorem full_bd (x y : Int) : -2048 ≤ fullF (Ang.fineF x y) ∧ fullF (Ang.fineF x y) ≤ 2047 := by
  unfold fullF; omega
theorem half_bd (x y : Int) : -1024 ≤ halfF (Ang.fineF x y) ∧ halfF (Ang.fineF x y) ≤ 1023 := by
  unfold halfF; omega
theorem lock_rot (x y : Int) : shareF (-y * -y - x * x) (-y * -y + x * x) = - shareF (x * x - y * y) (x * x + y * y) := by
  have h1 := sq_nn x; have h2 := sq_nn y
  rw [show -y * -y = y * y from by grind]
  exact share_swap _ _ h1 h2
theorem lock_bd (x y : Int) : -1024 ≤ shareF (x * x - y * y) (x * x + y * y) ∧ shareF (x * x - y * y) (x * x + y * y) ≤ 1024 := by
  have h1 := sq_nn x; have h2 := sq_nn y
  generalize hu : x * x = u at *
  generalize hv : y * y = v at *
  by_cases g : 0 ≤ u - v
  · have := shareF_bd (u - v) (u + v) g (by omega); omega
  · have e := shareF_neg (u - v) (u + v) (by omega) (by omega)
    have := shareF_bd (-(u - v)) (u + v) (by omega) (by omega); omega
theorem fine_real (p : Int) (hp : 0 < p) : Ang.fineF p 0 = 0 := by
  have hs : Ang.IsSec 0 p 0 := by
    refine ⟨by omega, by omega, ?_, ?_⟩
    · show (0 : Int) ≤ 253 * 0 - (-12) * p; omega
    · show (0 : Int) < p * 12 - 0 * 253; omega
  have hne : p ≠ 0 ∨ (0 : Int) ≠ 0 := by omega
  have f := Ang.fab hs
  have e0 : Ang.fa p 0 = 12 * p := by rw [f.1]; show (253 : Int) * 0 - (-12) * p = 12 * p; omega
  have e1 : Ang.fb p 0 = 12 * p := by rw [f.2.1]; show -((253 : Int) * 0 - 12 * p) = 12 * p; omega
  rw [Ang.fineF_eq hne, Ang.secF_eq hs]
  unfold Ang.fl
  rw [e0, e1, show 64 * (12 * p) = 32 * (12 * p + 12 * p) from by omega, Int.mul_ediv_cancel _ (by omega)]
  rfl
theorem sq_pos {x y : Int} (h : x ≠ 0 ∨ y ≠ 0) : 0 < x * x + y * y := by
  have h1 := sq_nn x; have h2 := sq_nn y
  rcases h with h | h
  · have : x * x ≠ 0 := Int.mul_ne_zero h h
    omega
  · have : y * y ≠ 0 := Int.mul_ne_zero h h
    omega
theorem rate_self {x y : Int} (h : x ≠ 0 ∨ y ≠ 0) : fullF (Ang.fineF (x * x + y * y) (x * y - y * x)) = 0 := by
  rw [show x * y - y * x = 0 from by grind, fine_real _ (sq_pos h)]; rfl
theorem rate_quarter {x y : Int} (h : x ≠ 0 ∨ y ≠ 0) : fullF (Ang.fineF (x * -y + y * x) (x * x - y * -y)) = 1024 := by
  have hp := sq_pos h
  have e := Ang.fineF_rot (x := x * x + y * y) (y := 0) (by omega)
  rw [fine_real _ hp, Int.neg_zero] at e
  rw [show x * -y + y * x = 0 from by grind, show x * x - y * -y = x * x + y * y from by grind, e]; rfl
theorem rate_both (a b c d : Int) : fullF (Ang.fineF (-b * -d + a * c) (-b * c - a * -d)) = fullF (Ang.fineF (a * c + b * d) (a * d - b * c)) := by
  rw [show -b * -d + a * c = a * c + b * d from by grind, show -b * c - a * -d = a * d - b * c from by grind]
set_option maxRecDepth 100000 in
set_option maxHeartbeats 2000000 in
theorem angles_walk (first second : Int) (w : World) :
    Calls Try.prog 7 #[.int .i64 first, .int .i64 second] w fun e w' => e = .returned (.bool true) ∧ Below w.heap.size w w' := by
  go_enter Try.func7, Try.ntmps7
  go_wp2_with fail
  refine (known_any _).mono ?_
  rintro e w1 ⟨rfl, hb⟩
  have HB1 := Lib.hid hb
  clear hb
  go_wp2_with fail
  refine (sum_any first _).mono ?_
  rintro e w2 ⟨a, b, ha, hb, rfl, hb2⟩
  have HB2 := Lib.hid (HB1.out.trans (hb2.mono HB1.out.size))
  clear hb2
  go_wp2_with fail
  refine (sum_any second _).mono ?_
  rintro e w3 ⟨c, d, hc, hd, rfl, hb3⟩
  have HB3 := Lib.hid (HB2.out.trans (hb3.mono HB2.out.size))
  clear hb3
  have zero : ∀ u v : Int, (u = 0 ∧ v = 0) ∨ ((u == 0) = false) ∨ ((v == 0) = false) := by
    intro u v; simp; omega
  have hA := zero a b
  have hC := zero c d
  clear zero
  rcases hA with ⟨rfl, rfl⟩ | hA
  · go_wp2_with fail
    go_ret
    exact ⟨rfl, (HB3.out.alloc HB3.out.size _).alloc (Nat.le_trans HB3.out.size (by simp)) _⟩
  rcases hC with ⟨rfl, rfl⟩ | hC
  · have hne : a ≠ 0 ∨ b ≠ 0 := by rcases hA with h | h <;> simp at h <;> omega
    rcases hA with h0 | h0
    · clear hne
      go_wp2_with fail
      go_ret
      exact ⟨rfl, (HB3.out.alloc HB3.out.size _).alloc (Nat.le_trans HB3.out.size (by simp)) _⟩
    · clear hne
      go_wp2_with fail
      go_ret
      exact ⟨rfl, (HB3.out.alloc HB3.out.size _).alloc (Nat.le_trans HB3.out.size (by simp)) _⟩
  have hne : a ≠ 0 ∨ b ≠ 0 := by rcases hA with h | h <;> simp at h <;> omega
  have I1 := Lib.hid (bd_in ha hb)
  have I4 := Lib.hid (bd_in hc hd)
  obtain ⟨a0, a1⟩ := ha
  obtain ⟨b0, b1⟩ := hb
  obtain ⟨c0, c1⟩ := hc
  obtain ⟨d0, d1⟩ := hd
  have I2 := Lib.hid (show InB (-b, a) by unfold InB; simp only; omega)
  have I3 := Lib.hid (show InB (-a, -b) by unfold InB; simp only; omega)
  have I5 := Lib.hid (show InB (-d, c) by unfold InB; simp only; omega)
  have E3 := Lib.hid (half_neg hne)
  have E4 := Lib.hid (lock_rot a b)
  have T1 := Lib.hid (full_rot hne)
  have T2 := Lib.hid (full_half a b)
  have R1 := Lib.hid (rate_self hne)
  have R2 := Lib.hid (rate_quarter hne)
  have R4 := Lib.hid (rate_both a b c d)
  obtain ⟨X0, X1⟩ := full_bd a b
  obtain ⟨Y0, Y1⟩ := full_bd (-b) a
  obtain ⟨U0, U1⟩ := half_bd a b
  obtain ⟨P0, P1⟩ := lock_bd a b
  clear hne
  rcases hA with h0 | h0
  · rcases hC with h1 | h1
    · go_wp2_with fail
      refine (lfull_yes a b _ I1.out).mono ?_
      rintro e w4 ⟨rfl, hb⟩
      generalize fullF (Ang.fineF a b) = X at *
      have g4_0 := (hb.cell (p := ⟨w3.heap.size, 0, none⟩) (by simp; try omega)).trans (show _ = some (.int .i64 a) by simp [go_sem])
      have g4_1 := (hb.cell (p := ⟨w3.heap.size, 1, none⟩) (by simp; try omega)).trans (show _ = some (.int .i64 b) by simp [go_sem])
      have g4_2 := (hb.cell (p := ⟨w3.heap.size + 1, 0, none⟩) (by simp; try omega)).trans (show _ = some (.int .i64 c) by simp [go_sem])
      have g4_3 := (hb.cell (p := ⟨w3.heap.size + 1, 1, none⟩) (by simp; try omega)).trans (show _ = some (.int .i64 d) by simp [go_sem])
      have zz := hb.size
      simp only [World.size_alloc] at zz
      have z4_0 : w3.heap.size < w4.heap.size := by omega
      have z4_1 : w3.heap.size + 1 < w4.heap.size := by omega
      have HB4 := Lib.hid (((HB3.out.alloc HB3.out.size (.cells #[.int .i64 a, .int .i64 b] 23)).alloc (Nat.le_trans HB3.out.size (by simp)) (.cells #[.int .i64 c, .int .i64 d] 23)).trans (hb.mono (Nat.le_trans HB3.out.size (by simp; omega))))
      clear hb zz
      go_wp2_with fail
      refine (lfull_yes (-b) a _ I2.out).mono ?_
      rintro e w5 ⟨rfl, hb⟩
      generalize fullF (Ang.fineF (-b) a) = Y at *
      have g5_0 := (hb.cell (p := ⟨w3.heap.size, 0, none⟩) z4_0).trans g4_0
      have g5_1 := (hb.cell (p := ⟨w3.heap.size, 1, none⟩) z4_0).trans g4_1
      have g5_2 := (hb.cell (p := ⟨w3.heap.size + 1, 0, none⟩) z4_1).trans g4_2
      have g5_3 := (hb.cell (p := ⟨w3.heap.size + 1, 1, none⟩) z4_1).trans g4_3
      have z5_0 := Nat.lt_of_lt_of_le z4_0 hb.size
      have z5_1 := Nat.lt_of_lt_of_le z4_1 hb.size
      have HB5 := Lib.hid (HB4.out.trans (hb.mono HB4.out.size))
      clear hb g4_0 g4_1 g4_2 g4_3 z4_0 z4_1
      go_wp2_with fail
      refine (lhalf_yes a b _ I1.out).mono ?_
      rintro e w6 ⟨rfl, hb⟩
      generalize halfF (Ang.fineF a b) = U at *
      have g6_0 := (hb.cell (p := ⟨w3.heap.size, 0, none⟩) z5_0).trans g5_0
      have g6_1 := (hb.cell (p := ⟨w3.heap.size, 1, none⟩) z5_0).trans g5_1
      have g6_2 := (hb.cell (p := ⟨w3.heap.size + 1, 0, none⟩) z5_1).trans g5_2
      have g6_3 := (hb.cell (p := ⟨w3.heap.size + 1, 1, none⟩) z5_1).trans g5_3
      have z6_0 := Nat.lt_of_lt_of_le z5_0 hb.size
      have z6_1 := Nat.lt_of_lt_of_le z5_1 hb.size
      have HB6 := Lib.hid (HB5.out.trans (hb.mono HB5.out.size))
      clear hb g5_0 g5_1 g5_2 g5_3 z5_0 z5_1
      go_wp2_with fail
      refine (lhalf_yes (-a) (-b) _ I3.out).mono ?_
      rintro e w7 ⟨rfl, hb⟩
      rw [E3.out]
      have g7_0 := (hb.cell (p := ⟨w3.heap.size, 0, none⟩) z6_0).trans g6_0
      have g7_1 := (hb.cell (p := ⟨w3.heap.size, 1, none⟩) z6_0).trans g6_1
      have g7_2 := (hb.cell (p := ⟨w3.heap.size + 1, 0, none⟩) z6_1).trans g6_2
      have g7_3 := (hb.cell (p := ⟨w3.heap.size + 1, 1, none⟩) z6_1).trans g6_3
      have z7_0 := Nat.lt_of_lt_of_le z6_0 hb.size
      have z7_1 := Nat.lt_of_lt_of_le z6_1 hb.size
      have HB7 := Lib.hid (HB6.out.trans (hb.mono HB6.out.size))
      clear hb g6_0 g6_1 g6_2 g6_3 z6_0 z6_1
      go_wp2_with fail
      refine (llock_yes a b _ I1.out).mono ?_
      rintro e w8 ⟨rfl, hb⟩
      generalize shareF (a * a - b * b) (a * a + b * b) = P at *
      have g8_0 := (hb.cell (p := ⟨w3.heap.size, 0, none⟩) z7_0).trans g7_0
      have g8_1 := (hb.cell (p := ⟨w3.heap.size, 1, none⟩) z7_0).trans g7_1
      have g8_2 := (hb.cell (p := ⟨w3.heap.size + 1, 0, none⟩) z7_1).trans g7_2
      have g8_3 := (hb.cell (p := ⟨w3.heap.size + 1, 1, none⟩) z7_1).trans g7_3
      have z8_0 := Nat.lt_of_lt_of_le z7_0 hb.size
      have z8_1 := Nat.lt_of_lt_of_le z7_1 hb.size
      have HB8 := Lib.hid (HB7.out.trans (hb.mono HB7.out.size))
      clear hb g7_0 g7_1 g7_2 g7_3 z7_0 z7_1
      go_wp2_with fail
      refine (llock_yes (-b) a _ I2.out).mono ?_
      rintro e w9 ⟨rfl, hb⟩
      rw [E4.out]
      have g9_0 := (hb.cell (p := ⟨w3.heap.size, 0, none⟩) z8_0).trans g8_0
      have g9_1 := (hb.cell (p := ⟨w3.heap.size, 1, none⟩) z8_0).trans g8_1
      have g9_2 := (hb.cell (p := ⟨w3.heap.size + 1, 0, none⟩) z8_1).trans g8_2
      have g9_3 := (hb.cell (p := ⟨w3.heap.size + 1, 1, none⟩) z8_1).trans g8_3
      have z9_0 := Nat.lt_of_lt_of_le z8_0 hb.size
      have z9_1 := Nat.lt_of_lt_of_le z8_1 hb.size
      have HB9 := Lib.hid (HB8.out.trans (hb.mono HB8.out.size))
      clear hb g8_0 g8_1 g8_2 g8_3 z8_0 z8_1
      go_wp2_with fail
      refine (kturn_any _ 4096 (by omega) (by omega) _).mono ?_
      rintro e wt ⟨rfl, rfl⟩
      rw [T1.out]
      go_wp2_with fail
      refine (kturn_any _ 2048 (by omega) (by omega) _).mono ?_
      rintro e wt ⟨rfl, rfl⟩
      rw [T2.out]
      go_wp2_with fail
      refine (Rate_yes a b a b _ I1.out I1.out).mono ?_
      rintro e w10 ⟨rfl, hb⟩
      rw [R1.out]
      have g10_0 := (hb.cell (p := ⟨w3.heap.size, 0, none⟩) z9_0).trans g9_0
      have g10_1 := (hb.cell (p := ⟨w3.heap.size, 1, none⟩) z9_0).trans g9_1
      have g10_2 := (hb.cell (p := ⟨w3.heap.size + 1, 0, none⟩) z9_1).trans g9_2
      have g10_3 := (hb.cell (p := ⟨w3.heap.size + 1, 1, none⟩) z9_1).trans g9_3
      have z10_0 := Nat.lt_of_lt_of_le z9_0 hb.size
      have z10_1 := Nat.lt_of_lt_of_le z9_1 hb.size
      have HB10 := Lib.hid (HB9.out.trans (hb.mono HB9.out.size))
      clear hb g9_0 g9_1 g9_2 g9_3 z9_0 z9_1
      go_wp2_with fail
      refine (Rate_yes a b (-b) a _ I1.out I2.out).mono ?_
      rintro e w11 ⟨rfl, hb⟩
      rw [R2.out]
      have g11_0 := (hb.cell (p := ⟨w3.heap.size, 0, none⟩) z10_0).trans g10_0
      have g11_1 := (hb.cell (p := ⟨w3.heap.size, 1, none⟩) z10_0).trans g10_1
      have g11_2 := (hb.cell (p := ⟨w3.heap.size + 1, 0, none⟩) z10_1).trans g10_2
      have g11_3 := (hb.cell (p := ⟨w3.heap.size + 1, 1, none⟩) z10_1).trans g10_3
      have z11_0 := Nat.lt_of_lt_of_le z10_0 hb.size
      have z11_1 := Nat.lt_of_lt_of_le z10_1 hb.size
      have HB11 := Lib.hid (HB10.out.trans (hb.mono HB10.out.size))
      clear hb g10_0 g10_1 g10_2 g10_3 z10_0 z10_1
      go_wp2_with fail
      refine (Rate_yes a b c d _ I1.out I4.out).mono ?_
      rintro e w12 ⟨rfl, hb⟩
      generalize fullF (Ang.fineF (a * c + b * d) (a * d - b * c)) = G at *
      have g12_0 := (hb.cell (p := ⟨w3.heap.size, 0, none⟩) z11_0).trans g11_0
      have g12_1 := (hb.cell (p := ⟨w3.heap.size, 1, none⟩) z11_0).trans g11_1
      have g12_2 := (hb.cell (p := ⟨w3.heap.size + 1, 0, none⟩) z11_1).trans g11_2
      have g12_3 := (hb.cell (p := ⟨w3.heap.size + 1, 1, none⟩) z11_1).trans g11_3
      have z12_0 := Nat.lt_of_lt_of_le z11_0 hb.size
      have z12_1 := Nat.lt_of_lt_of_le z11_1 hb.size
      have HB12 := Lib.hid (HB11.out.trans (hb.mono HB11.out.size))
      clear hb g11_0 g11_1 g11_2 g11_3 z11_0 z11_1
      go_wp2_with fail
      refine (Rate_yes (-b) a (-d) c _ I2.out I5.out).mono ?_
      rintro e w13 ⟨rfl, hb⟩
      rw [R4.out]
      have g13_0 := (hb.cell (p := ⟨w3.heap.size, 0, none⟩) z12_0).trans g12_0
      have g13_1 := (hb.cell (p := ⟨w3.heap.size, 1, none⟩) z12_0).trans g12_1
      have g13_2 := (hb.cell (p := ⟨w3.heap.size + 1, 0, none⟩) z12_1).trans g12_2
      have g13_3 := (hb.cell (p := ⟨w3.heap.size + 1, 1, none⟩) z12_1).trans g12_3
      have z13_0 := Nat.lt_of_lt_of_le z12_0 hb.size
      have z13_1 := Nat.lt_of_lt_of_le z12_1 hb.size
      have HB13 := Lib.hid (HB12.out.trans (hb.mono HB12.out.size))
      clear hb g12_0 g12_1 g12_2 g12_3 z12_0 z12_1
      go_wp2_with fail
      go_ret
      exact ⟨rfl, HB13.out⟩
    · go_wp2_with fail
      refine (lfull_yes a b _ I1.out).mono ?_
      rintro e w4 ⟨rfl, hb⟩
      generalize fullF (Ang.fineF a b) = X at *
      have g4_0 := (hb.cell (p := ⟨w3.heap.size, 0, none⟩) (by simp; try omega)).trans (show _ = some (.int .i64 a) by simp [go_sem])
      have g4_1 := (hb.cell (p := ⟨w3.heap.size, 1, none⟩) (by simp; try omega)).trans (show _ = some (.int .i64 b) by simp [go_sem])
      have g4_2 := (hb.cell (p := ⟨w3.heap.size + 1, 0, none⟩) (by simp; try omega)).trans (show _ = some (.int .i64 c) by simp [go_sem])
      have g4_3 := (hb.cell (p := ⟨w3.heap.size + 1, 1, none⟩) (by simp; try omega)).trans (show _ = some (.int .i64 d) by simp [go_sem])
      have zz := hb.size
      simp only [World.size_alloc] at zz
      have z4_0 : w3.heap.size < w4.heap.size := by omega
      have z4_1 : w3.heap.size + 1 < w4.heap.size := by omega
      have HB4 := Lib.hid (((HB3.out.alloc HB3.out.size (.cells #[.int .i64 a, .int .i64 b] 23)).alloc (Nat.le_trans HB3.out.size (by simp)) (.cells #[.int .i64 c, .int .i64 d] 23)).trans (hb.mono (Nat.le_trans HB3.out.size (by simp; omega))))
      clear hb zz
      go_wp2_with fail
      refine (lfull_yes (-b) a _ I2.out).mono ?_
      rintro e w5 ⟨rfl, hb⟩
      generalize fullF (Ang.fineF (-b) a) = Y at *
      have g5_0 := (hb.cell (p := ⟨w3.heap.size, 0, none⟩) z4_0).trans g4_0
      have g5_1 := (hb.cell (p := ⟨w3.heap.size, 1, none⟩) z4_0).trans g4_1
      have g5_2 := (hb.cell (p := ⟨w3.heap.size + 1, 0, none⟩) z4_1).trans g4_2
      have g5_3 := (hb.cell (p := ⟨w3.heap.size + 1, 1, none⟩) z4_1).trans g4_3
      have z5_0 := Nat.lt_of_lt_of_le z4_0 hb.size
      have z5_1 := Nat.lt_of_lt_of_le z4_1 hb.size
      have HB5 := Lib.hid (HB4.out.trans (hb.mono HB4.out.size))
      clear hb g4_0 g4_1 g4_2 g4_3 z4_0 z4_1
      go_wp2_with fail
      refine (lhalf_yes a b _ I1.out).mono ?_
      rintro e w6 ⟨rfl, hb⟩
      generalize halfF (Ang.fineF a b) = U at *
      have g6_0 := (hb.cell (p := ⟨w3.heap.size, 0, none⟩) z5_0).trans g5_0
      have g6_1 := (hb.cell (p := ⟨w3.heap.size, 1, none⟩) z5_0).trans g5_1
      have g6_2 := (hb.cell (p := ⟨w3.heap.size + 1, 0, none⟩) z5_1).trans g5_2
      have g6_3 := (hb.cell (p := ⟨w3.heap.size + 1, 1, none⟩) z5_1).trans g5_3
      have z6_0 := Nat.lt_of_lt_of_le z5_0 hb.size
      have z6_1 := Nat.lt_of_lt_of_le z5_1 hb.size
      have HB6 := Lib.hid (HB5.out.trans (hb.mono HB5.out.size))
      clear hb g5_0 g5_1 g5_2 g5_3 z5_0 z5_1
      go_wp2_with fail
      refine (lhalf_yes (-a) (-b) _ I3.out).mono ?_
      rintro e w7 ⟨rfl, hb⟩
      rw [E3.out]
      have g7_0 := (hb.cell (p := ⟨w3.heap.size, 0, none⟩) z6_0).trans g6_0
      have g7_1 := (hb.cell (p := ⟨w3.heap.size, 1, none⟩) z6_0).trans g6_1
      have g7_2 := (hb.cell (p := ⟨w3.heap.size + 1, 0, none⟩) z6_1).trans g6_2
      have g7_3 := (hb.cell (p := ⟨w3.heap.size + 1, 1, none⟩) z6_1).trans g6_3
      have z7_0 := Nat.lt_of_lt_of_le z6_0 hb.size
      have z7_1 := Nat.lt_of_lt_of_le z6_1 hb.size
      have HB7 := Lib.hid (HB6.out.trans (hb.mono HB6.out.size))
      clear hb g6_0 g6_1 g6_2 g6_3 z6_0 z6_1
      go_wp2_with fail
      refine (llock_yes a b _ I1.out).mono ?_
      rintro e w8 ⟨rfl, hb⟩
      generalize shareF (a * a - b * b) (a * a + b * b) = P at *
      have g8_0 := (hb.cell (p := ⟨w3.heap.size, 0, none⟩) z7_0).trans g7_0
      have g8_1 := (hb.cell (p := ⟨w3.heap.size, 1, none⟩) z7_0).trans g7_1
      have g8_2 := (hb.cell (p := ⟨w3.heap.size + 1, 0, none⟩) z7_1).trans g7_2
      have g8_3 := (hb.cell (p := ⟨w3.heap.size + 1, 1, none⟩) z7_1).trans g7_3
      have z8_0 := Nat.lt_of_lt_of_le z7_0 hb.size
      have z8_1 := Nat.lt_of_lt_of_le z7_1 hb.size
      have HB8 := Lib.hid (HB7.out.trans (hb.mono HB7.out.size))
      clear hb g7_0 g7_1 g7_2 g7_3 z7_0 z7_1
      go_wp2_with fail
      refine (llock_yes (-b) a _ I2.out).mono ?_
      rintro e w9 ⟨rfl, hb⟩
      rw [E4.out]
      have g9_0 := (hb.cell (p := ⟨w3.heap.size, 0, none⟩) z8_0).trans g8_0
      have g9_1 := (hb.cell (p := ⟨w3.heap.size, 1, none⟩) z8_0).trans g8_1
      have g9_2 := (hb.cell (p := ⟨w3.heap.size + 1, 0, none⟩) z8_1).trans g8_2
      have g9_3 := (hb.cell (p := ⟨w3.heap.size + 1, 1, none⟩) z8_1).trans g8_3
      have z9_0 := Nat.lt_of_lt_of_le z8_0 hb.size
      have z9_1 := Nat.lt_of_lt_of_le z8_1 hb.size
      have HB9 := Lib.hid (HB8.out.trans (hb.mono HB8.out.size))
      clear hb g8_0 g8_1 g8_2 g8_3 z8_0 z8_1
      go_wp2_with fail
      refine (kturn_any _ 4096 (by omega) (by omega) _).mono ?_
      rintro e wt ⟨rfl, rfl⟩
      rw [T1.out]
      go_wp2_with fail
      refine (kturn_any _ 2048 (by omega) (by omega) _).mono ?_
      rintro e wt ⟨rfl, rfl⟩
      rw [T2.out]
      go_wp2_with fail
      refine (Rate_yes a b a b _ I1.out I1.out).mono ?_
      rintro e w10 ⟨rfl, hb⟩
      rw [R1.out]
      have g10_0 := (hb.cell (p := ⟨w3.heap.size, 0, none⟩) z9_0).trans g9_0
      have g10_1 := (hb.cell (p := ⟨w3.heap.size, 1, none⟩) z9_0).trans g9_1
      have g10_2 := (hb.cell (p := ⟨w3.heap.size + 1, 0, none⟩) z9_1).trans g9_2
      have g10_3 := (hb.cell (p := ⟨w3.heap.size + 1, 1, none⟩) z9_1).trans g9_3
      have z10_0 := Nat.lt_of_lt_of_le z9_0 hb.size
      have z10_1 := Nat.lt_of_lt_of_le z9_1 hb.size
      have HB10 := Lib.hid (HB9.out.trans (hb.mono HB9.out.size))
      clear hb g9_0 g9_1 g9_2 g9_3 z9_0 z9_1
      go_wp2_with fail
      refine (Rate_yes a b (-b) a _ I1.out I2.out).mono ?_
      rintro e w11 ⟨rfl, hb⟩
      rw [R2.out]
      have g11_0 := (hb.cell (p := ⟨w3.heap.size, 0, none⟩) z10_0).trans g10_0
      have g11_1 := (hb.cell (p := ⟨w3.heap.size, 1, none⟩) z10_0).trans g10_1
      have g11_2 := (hb.cell (p := ⟨w3.heap.size + 1, 0, none⟩) z10_1).trans g10_2
      have g11_3 := (hb.cell (p := ⟨w3.heap.size + 1, 1, none⟩) z10_1).trans g10_3
      have z11_0 := Nat.lt_of_lt_of_le z10_0 hb.size
      have z11_1 := Nat.lt_of_lt_of_le z10_1 hb.size
      have HB11 := Lib.hid (HB10.out.trans (hb.mono HB10.out.size))
      clear hb g10_0 g10_1 g10_2 g10_3 z10_0 z10_1
      go_wp2_with fail
      refine (Rate_yes a b c d _ I1.out I4.out).mono ?_
      rintro e w12 ⟨rfl, hb⟩
      generalize fullF (Ang.fineF (a * c + b * d) (a * d - b * c)) = G at *
      have g12_0 := (hb.cell (p := ⟨w3.heap.size, 0, none⟩) z11_0).trans g11_0
      have g12_1 := (hb.cell (p := ⟨w3.heap.size, 1, none⟩) z11_0).trans g11_1
      have g12_2 := (hb.cell (p := ⟨w3.heap.size + 1, 0, none⟩) z11_1).trans g11_2
      have g12_3 := (hb.cell (p := ⟨w3.heap.size + 1, 1, none⟩) z11_1).trans g11_3
      have z12_0 := Nat.lt_of_lt_of_le z11_0 hb.size
      have z12_1 := Nat.lt_of_lt_of_le z11_1 hb.size
      have HB12 := Lib.hid (HB11.out.trans (hb.mono HB11.out.size))
      clear hb g11_0 g11_1 g11_2 g11_3 z11_0 z11_1
      go_wp2_with fail
      refine (Rate_yes (-b) a (-d) c _ I2.out I5.out).mono ?_
      rintro e w13 ⟨rfl, hb⟩
      rw [R4.out]
      have g13_0 := (hb.cell (p := ⟨w3.heap.size, 0, none⟩) z12_0).trans g12_0
      have g13_1 := (hb.cell (p := ⟨w3.heap.size, 1, none⟩) z12_0).trans g12_1
      have g13_2 := (hb.cell (p := ⟨w3.heap.size + 1, 0, none⟩) z12_1).trans g12_2
      have g13_3 := (hb.cell (p := ⟨w3.heap.size + 1, 1, none⟩) z12_1).trans g12_3
      have z13_0 := Nat.lt_of_lt_of_le z12_0 hb.size
      have z13_1 := Nat.lt_of_lt_of_le z12_1 hb.size
      have HB13 := Lib.hid (HB12.out.trans (hb.mono HB12.out.size))
      clear hb g12_0 g12_1 g12_2 g12_3 z12_0 z12_1
      go_wp2_with fail
      go_ret
      exact ⟨rfl, HB13.out⟩
  · rcases hC with h1 | h1
    · go_wp2_with fail
      refine (lfull_yes a b _ I1.out).mono ?_
      rintro e w4 ⟨rfl, hb⟩
      generalize fullF (Ang.fineF a b) = X at *
      have g4_0 := (hb.cell (p := ⟨w3.heap.size, 0, none⟩) (by simp; try omega)).trans (show _ = some (.int .i64 a) by simp [go_sem])
      have g4_1 := (hb.cell (p := ⟨w3.heap.size, 1, none⟩) (by simp; try omega)).trans (show _ = some (.int .i64 b) by simp [go_sem])
      have g4_2 := (hb.cell (p := ⟨w3.heap.size + 1, 0, none⟩) (by simp; try omega)).trans (show _ = some (.int .i64 c) by simp [go_sem])
      have g4_3 := (hb.cell (p := ⟨w3.heap.size + 1, 1, none⟩) (by simp; try omega)).trans (show _ = some (.int .i64 d) by simp [go_sem])
      have zz := hb.size
      simp only [World.size_alloc] at zz
      have z4_0 : w3.heap.size < w4.heap.size := by omega
      have z4_1 : w3.heap.size + 1 < w4.heap.size := by omega
      have HB4 := Lib.hid (((HB3.out.alloc HB3.out.size (.cells #[.int .i64 a, .int .i64 b] 23)).alloc (Nat.le_trans HB3.out.size (by simp)) (.cells #[.int .i64 c, .int .i64 d] 23)).trans (hb.mono (Nat.le_trans HB3.out.size (by simp; omega))))
      clear hb zz
      go_wp2_with fail
      refine (lfull_yes (-b) a _ I2.out).mono ?_
      rintro e w5 ⟨rfl, hb⟩
      generalize fullF (Ang.fineF (-b) a) = Y at *
      have g5_0 := (hb.cell (p := ⟨w3.heap.size, 0, none⟩) z4_0).trans g4_0
      have g5_1 := (hb.cell (p := ⟨w3.heap.size, 1, none⟩) z4_0).trans g4_1
      have g5_2 := (hb.cell (p := ⟨w3.heap.size + 1, 0, none⟩) z4_1).trans g4_2
      have g5_3 := (hb.cell (p := ⟨w3.heap.size + 1, 1, none⟩) z4_1).trans g4_3
      have z5_0 := Nat.lt_of_lt_of_le z4_0 hb.size
      have z5_1 := Nat.lt_of_lt_of_le z4_1 hb.size
      have HB5 := Lib.hid (HB4.out.trans (hb.mono HB4.out.size))
      clear hb g4_0 g4_1 g4_2 g4_3 z4_0 z4_1
      go_wp2_with fail
      refine (lhalf_yes a b _ I1.out).mono ?_
      rintro e w6 ⟨rfl, hb⟩
      generalize halfF (Ang.fineF a b) = U at *
      have g6_0 := (hb.cell (p := ⟨w3.heap.size, 0, none⟩) z5_0).trans g5_0
      have g6_1 := (hb.cell (p := ⟨w3.heap.size, 1, none⟩) z5_0).trans g5_1
      have g6_2 := (hb.cell (p := ⟨w3.heap.size + 1, 0, none⟩) z5_1).trans g5_2
      have g6_3 := (hb.cell (p := ⟨w3.heap.size + 1, 1, none⟩) z5_1).trans g5_3
      have z6_0 := Nat.lt_of_lt_of_le z5_0 hb.size
      have z6_1 := Nat.lt_of_lt_of_le z5_1 hb.size
      have HB6 := Lib.hid (HB5.out.trans (hb.mono HB5.out.size))
      clear hb g5_0 g5_1 g5_2 g5_3 z5_0 z5_1
      go_wp2_with fail
      refine (lhalf_yes (-a) (-b) _ I3.out).mono ?_
      rintro e w7 ⟨rfl, hb⟩
      rw [E3.out]
      have g7_0 := (hb.cell (p := ⟨w3.heap.size, 0, none⟩) z6_0).trans g6_0
      have g7_1 := (hb.cell (p := ⟨w3.heap.size, 1, none⟩) z6_0).trans g6_1
      have g7_2 := (hb.cell (p := ⟨w3.heap.size + 1, 0, none⟩) z6_1).trans g6_2
      have g7_3 := (hb.cell (p := ⟨w3.heap.size + 1, 1, none⟩) z6_1).trans g6_3
      have z7_0 := Nat.lt_of_lt_of_le z6_0 hb.size
      have z7_1 := Nat.lt_of_lt_of_le z6_1 hb.size
      have HB7 := Lib.hid (HB6.out.trans (hb.mono HB6.out.size))
      clear hb g6_0 g6_1 g6_2 g6_3 z6_0 z6_1
      go_wp2_with fail
      refine (llock_yes a b _ I1.out).mono ?_
      rintro e w8 ⟨rfl, hb⟩
      generalize shareF (a * a - b * b) (a * a + b * b) = P at *
      have g8_0 := (hb.cell (p := ⟨w3.heap.size, 0, none⟩) z7_0).trans g7_0
      have g8_1 := (hb.cell (p := ⟨w3.heap.size, 1, none⟩) z7_0).trans g7_1
      have g8_2 := (hb.cell (p := ⟨w3.heap.size + 1, 0, none⟩) z7_1).trans g7_2
      have g8_3 := (hb.cell (p := ⟨w3.heap.size + 1, 1, none⟩) z7_1).trans g7_3
      have z8_0 := Nat.lt_of_lt_of_le z7_0 hb.size
      have z8_1 := Nat.lt_of_lt_of_le z7_1 hb.size
      have HB8 := Lib.hid (HB7.out.trans (hb.mono HB7.out.size))
      clear hb g7_0 g7_1 g7_2 g7_3 z7_0 z7_1
      go_wp2_with fail
      refine (llock_yes (-b) a _ I2.out).mono ?_
      rintro e w9 ⟨rfl, hb⟩
      rw [E4.out]
      have g9_0 := (hb.cell (p := ⟨w3.heap.size, 0, none⟩) z8_0).trans g8_0
      have g9_1 := (hb.cell (p := ⟨w3.heap.size, 1, none⟩) z8_0).trans g8_1
      have g9_2 := (hb.cell (p := ⟨w3.heap.size + 1, 0, none⟩) z8_1).trans g8_2
      have g9_3 := (hb.cell (p := ⟨w3.heap.size + 1, 1, none⟩) z8_1).trans g8_3
      have z9_0 := Nat.lt_of_lt_of_le z8_0 hb.size
      have z9_1 := Nat.lt_of_lt_of_le z8_1 hb.size
      have HB9 := Lib.hid (HB8.out.trans (hb.mono HB8.out.size))
      clear hb g8_0 g8_1 g8_2 g8_3 z8_0 z8_1
      go_wp2_with fail
      refine (kturn_any _ 4096 (by omega) (by omega) _).mono ?_
      rintro e wt ⟨rfl, rfl⟩
      rw [T1.out]
      go_wp2_with fail
      refine (kturn_any _ 2048 (by omega) (by omega) _).mono ?_
      rintro e wt ⟨rfl, rfl⟩
      rw [T2.out]
      go_wp2_with fail
      refine (Rate_yes a b a b _ I1.out I1.out).mono ?_
      rintro e w10 ⟨rfl, hb⟩
      rw [R1.out]
      have g10_0 := (hb.cell (p := ⟨w3.heap.size, 0, none⟩) z9_0).trans g9_0
      have g10_1 := (hb.cell (p := ⟨w3.heap.size, 1, none⟩) z9_0).trans g9_1
      have g10_2 := (hb.cell (p := ⟨w3.heap.size + 1, 0, none⟩) z9_1).trans g9_2
      have g10_3 := (hb.cell (p := ⟨w3.heap.size + 1, 1, none⟩) z9_1).trans g9_3
      have z10_0 := Nat.lt_of_lt_of_le z9_0 hb.size
      have z10_1 := Nat.lt_of_lt_of_le z9_1 hb.size
      have HB10 := Lib.hid (HB9.out.trans (hb.mono HB9.out.size))
      clear hb g9_0 g9_1 g9_2 g9_3 z9_0 z9_1
      go_wp2_with fail
      refine (Rate_yes a b (-b) a _ I1.out I2.out).mono ?_
      rintro e w11 ⟨rfl, hb⟩
      rw [R2.out]
      have g11_0 := (hb.cell (p := ⟨w3.heap.size, 0, none⟩) z10_0).trans g10_0
      have g11_1 := (hb.cell (p := ⟨w3.heap.size, 1, none⟩) z10_0).trans g10_1
      have g11_2 := (hb.cell (p := ⟨w3.heap.size + 1, 0, none⟩) z10_1).trans g10_2
      have g11_3 := (hb.cell (p := ⟨w3.heap.size + 1, 1, none⟩) z10_1).trans g10_3
      have z11_0 := Nat.lt_of_lt_of_le z10_0 hb.size
      have z11_1 := Nat.lt_of_lt_of_le z10_1 hb.size
      have HB11 := Lib.hid (HB10.out.trans (hb.mono HB10.out.size))
      clear hb g10_0 g10_1 g10_2 g10_3 z10_0 z10_1
      go_wp2_with fail
      refine (Rate_yes a b c d _ I1.out I4.out).mono ?_
      rintro e w12 ⟨rfl, hb⟩
      generalize fullF (Ang.fineF (a * c + b * d) (a * d - b * c)) = G at *
      have g12_0 := (hb.cell (p := ⟨w3.heap.size, 0, none⟩) z11_0).trans g11_0
      have g12_1 := (hb.cell (p := ⟨w3.heap.size, 1, none⟩) z11_0).trans g11_1
      have g12_2 := (hb.cell (p := ⟨w3.heap.size + 1, 0, none⟩) z11_1).trans g11_2
      have g12_3 := (hb.cell (p := ⟨w3.heap.size + 1, 1, none⟩) z11_1).trans g11_3
      have z12_0 := Nat.lt_of_lt_of_le z11_0 hb.size
      have z12_1 := Nat.lt_of_lt_of_le z11_1 hb.size
      have HB12 := Lib.hid (HB11.out.trans (hb.mono HB11.out.size))
      clear hb g11_0 g11_1 g11_2 g11_3 z11_0 z11_1
      go_wp2_with fail
      refine (Rate_yes (-b) a (-d) c _ I2.out I5.out).mono ?_
      rintro e w13 ⟨rfl, hb⟩
      rw [R4.out]
      have g13_0 := (hb.cell (p := ⟨w3.heap.size, 0, none⟩) z12_0).trans g12_0
      have g13_1 := (hb.cell (p := ⟨w3.heap.size, 1, none⟩) z12_0).trans g12_1
      have g13_2 := (hb.cell (p := ⟨w3.heap.size + 1, 0, none⟩) z12_1).trans g12_2
      have g13_3 := (hb.cell (p := ⟨w3.heap.size + 1, 1, none⟩) z12_1).trans g12_3
      have z13_0 := Nat.lt_of_lt_of_le z12_0 hb.size
      have z13_1 := Nat.lt_of_lt_of_le z12_1 hb.size
      have HB13 := Lib.hid (HB12.out.trans (hb.mono HB12.out.size))
      clear hb g12_0 g12_1 g12_2 g12_3 z12_0 z12_1
      go_wp2_with fail
      go_ret
      exact ⟨rfl, HB13.out⟩
    · go_wp2_with fail
      refine (lfull_yes a b _ I1.out).mono ?_
      rintro e w4 ⟨rfl, hb⟩
      generalize fullF (Ang.fineF a b) = X at *
      have g4_0 := (hb.cell (p := ⟨w3.heap.size, 0, none⟩) (by simp; try omega)).trans (show _ = some (.int .i64 a) by simp [go_sem])
      have g4_1 := (hb.cell (p := ⟨w3.heap.size, 1, none⟩) (by simp; try omega)).trans (show _ = some (.int .i64 b) by simp [go_sem])
      have g4_2 := (hb.cell (p := ⟨w3.heap.size + 1, 0, none⟩) (by simp; try omega)).trans (show _ = some (.int .i64 c) by simp [go_sem])
      have g4_3 := (hb.cell (p := ⟨w3.heap.size + 1, 1, none⟩) (by simp; try omega)).trans (show _ = some (.int .i64 d) by simp [go_sem])
      have zz := hb.size
      simp only [World.size_alloc] at zz
      have z4_0 : w3.heap.size < w4.heap.size := by omega
      have z4_1 : w3.heap.size + 1 < w4.heap.size := by omega
      have HB4 := Lib.hid (((HB3.out.alloc HB3.out.size (.cells #[.int .i64 a, .int .i64 b] 23)).alloc (Nat.le_trans HB3.out.size (by simp)) (.cells #[.int .i64 c, .int .i64 d] 23)).trans (hb.mono (Nat.le_trans HB3.out.size (by simp; omega))))
      clear hb zz
      go_wp2_with fail
      refine (lfull_yes (-b) a _ I2.out).mono ?_
      rintro e w5 ⟨rfl, hb⟩
      generalize fullF (Ang.fineF (-b) a) = Y at *
      have g5_0 := (hb.cell (p := ⟨w3.heap.size, 0, none⟩) z4_0).trans g4_0
      have g5_1 := (hb.cell (p := ⟨w3.heap.size, 1, none⟩) z4_0).trans g4_1
      have g5_2 := (hb.cell (p := ⟨w3.heap.size + 1, 0, none⟩) z4_1).trans g4_2
      have g5_3 := (hb.cell (p := ⟨w3.heap.size + 1, 1, none⟩) z4_1).trans g4_3
      have z5_0 := Nat.lt_of_lt_of_le z4_0 hb.size
      have z5_1 := Nat.lt_of_lt_of_le z4_1 hb.size
      have HB5 := Lib.hid (HB4.out.trans (hb.mono HB4.out.size))
      clear hb g4_0 g4_1 g4_2 g4_3 z4_0 z4_1
      go_wp2_with fail
      refine (lhalf_yes a b _ I1.out).mono ?_
      rintro e w6 ⟨rfl, hb⟩
      generalize halfF (Ang.fineF a b) = U at *
      have g6_0 := (hb.cell (p := ⟨w3.heap.size, 0, none⟩) z5_0).trans g5_0
      have g6_1 := (hb.cell (p := ⟨w3.heap.size, 1, none⟩) z5_0).trans g5_1
      have g6_2 := (hb.cell (p := ⟨w3.heap.size + 1, 0, none⟩) z5_1).trans g5_2
      have g6_3 := (hb.cell (p := ⟨w3.heap.size + 1, 1, none⟩) z5_1).trans g5_3
      have z6_0 := Nat.lt_of_lt_of_le z5_0 hb.size
      have z6_1 := Nat.lt_of_lt_of_le z5_1 hb.size
      have HB6 := Lib.hid (HB5.out.trans (hb.mono HB5.out.size))
      clear hb g5_0 g5_1 g5_2 g5_3 z5_0 z5_1
      go_wp2_with fail
      refine (lhalf_yes (-a) (-b) _ I3.out).mono ?_
      rintro e w7 ⟨rfl, hb⟩
      rw [E3.out]
      have g7_0 := (hb.cell (p := ⟨w3.heap.size, 0, none⟩) z6_0).trans g6_0
      have g7_1 := (hb.cell (p := ⟨w3.heap.size, 1, none⟩) z6_0).trans g6_1
      have g7_2 := (hb.cell (p := ⟨w3.heap.size + 1, 0, none⟩) z6_1).trans g6_2
      have g7_3 := (hb.cell (p := ⟨w3.heap.size + 1, 1, none⟩) z6_1).trans g6_3
      have z7_0 := Nat.lt_of_lt_of_le z6_0 hb.size
      have z7_1 := Nat.lt_of_lt_of_le z6_1 hb.size
      have HB7 := Lib.hid (HB6.out.trans (hb.mono HB6.out.size))
      clear hb g6_0 g6_1 g6_2 g6_3 z6_0 z6_1
      go_wp2_with fail
      refine (llock_yes a b _ I1.out).mono ?_
      rintro e w8 ⟨rfl, hb⟩
      generalize shareF (a * a - b * b) (a * a + b * b) = P at *
      have g8_0 := (hb.cell (p := ⟨w3.heap.size, 0, none⟩) z7_0).trans g7_0
      have g8_1 := (hb.cell (p := ⟨w3.heap.size, 1, none⟩) z7_0).trans g7_1
      have g8_2 := (hb.cell (p := ⟨w3.heap.size + 1, 0, none⟩) z7_1).trans g7_2
      have g8_3 := (hb.cell (p := ⟨w3.heap.size + 1, 1, none⟩) z7_1).trans g7_3
      have z8_0 := Nat.lt_of_lt_of_le z7_0 hb.size
      have z8_1 := Nat.lt_of_lt_of_le z7_1 hb.size
      have HB8 := Lib.hid (HB7.out.trans (hb.mono HB7.out.size))
      clear hb g7_0 g7_1 g7_2 g7_3 z7_0 z7_1
      go_wp2_with fail
      refine (llock_yes (-b) a _ I2.out).mono ?_
      rintro e w9 ⟨rfl, hb⟩
      rw [E4.out]
      have g9_0 := (hb.cell (p := ⟨w3.heap.size, 0, none⟩) z8_0).trans g8_0
      have g9_1 := (hb.cell (p := ⟨w3.heap.size, 1, none⟩) z8_0).trans g8_1
      have g9_2 := (hb.cell (p := ⟨w3.heap.size + 1, 0, none⟩) z8_1).trans g8_2
      have g9_3 := (hb.cell (p := ⟨w3.heap.size + 1, 1, none⟩) z8_1).trans g8_3
      have z9_0 := Nat.lt_of_lt_of_le z8_0 hb.size
      have z9_1 := Nat.lt_of_lt_of_le z8_1 hb.size
      have HB9 := Lib.hid (HB8.out.trans (hb.mono HB8.out.size))
      clear hb g8_0 g8_1 g8_2 g8_3 z8_0 z8_1
      go_wp2_with fail
      refine (kturn_any _ 4096 (by omega) (by omega) _).mono ?_
      rintro e wt ⟨rfl, rfl⟩
      rw [T1.out]
      go_wp2_with fail
      refine (kturn_any _ 2048 (by omega) (by omega) _).mono ?_
      rintro e wt ⟨rfl, rfl⟩
      rw [T2.out]
      go_wp2_with fail
      refine (Rate_yes a b a b _ I1.out I1.out).mono ?_
      rintro e w10 ⟨rfl, hb⟩
      rw [R1.out]
      have g10_0 := (hb.cell (p := ⟨w3.heap.size, 0, none⟩) z9_0).trans g9_0
      have g10_1 := (hb.cell (p := ⟨w3.heap.size, 1, none⟩) z9_0).trans g9_1
      have g10_2 := (hb.cell (p := ⟨w3.heap.size + 1, 0, none⟩) z9_1).trans g9_2
      have g10_3 := (hb.cell (p := ⟨w3.heap.size + 1, 1, none⟩) z9_1).trans g9_3
      have z10_0 := Nat.lt_of_lt_of_le z9_0 hb.size
      have z10_1 := Nat.lt_of_lt_of_le z9_1 hb.size
      have HB10 := Lib.hid (HB9.out.trans (hb.mono HB9.out.size))
      clear hb g9_0 g9_1 g9_2 g9_3 z9_0 z9_1
      go_wp2_with fail
      refine (Rate_yes a b (-b) a _ I1.out I2.out).mono ?_
      rintro e w11 ⟨rfl, hb⟩
      rw [R2.out]
      have g11_0 := (hb.cell (p := ⟨w3.heap.size, 0, none⟩) z10_0).trans g10_0
      have g11_1 := (hb.cell (p := ⟨w3.heap.size, 1, none⟩) z10_0).trans g10_1
      have g11_2 := (hb.cell (p := ⟨w3.heap.size + 1, 0, none⟩) z10_1).trans g10_2
      have g11_3 := (hb.cell (p := ⟨w3.heap.size + 1, 1, none⟩) z10_1).trans g10_3
      have z11_0 := Nat.lt_of_lt_of_le z10_0 hb.size
      have z11_1 := Nat.lt_of_lt_of_le z10_1 hb.size
      have HB11 := Lib.hid (HB10.out.trans (hb.mono HB10.out.size))
      clear hb g10_0 g10_1 g10_2 g10_3 z10_0 z10_1
      go_wp2_with fail
      refine (Rate_yes a b c d _ I1.out I4.out).mono ?_
      rintro e w12 ⟨rfl, hb⟩
      generalize fullF (Ang.fineF (a * c + b * d) (a * d - b * c)) = G at *
      have g12_0 := (hb.cell (p := ⟨w3.heap.size, 0, none⟩) z11_0).trans g11_0
      have g12_1 := (hb.cell (p := ⟨w3.heap.size, 1, none⟩) z11_0).trans g11_1
      have g12_2 := (hb.cell (p := ⟨w3.heap.size + 1, 0, none⟩) z11_1).trans g11_2
      have g12_3 := (hb.cell (p := ⟨w3.heap.size + 1, 1, none⟩) z11_1).trans g11_3
      have z12_0 := Nat.lt_of_lt_of_le z11_0 hb.size
      have z12_1 := Nat.lt_of_lt_of_le z11_1 hb.size
      have HB12 := Lib.hid (HB11.out.trans (hb.mono HB11.out.size))
      clear hb g11_0 g11_1 g11_2 g11_3 z11_0 z11_1
      go_wp2_with fail
      refine (Rate_yes (-b) a (-d) c _ I2.out I5.out).mono ?_
      rintro e w13 ⟨rfl, hb⟩
      rw [R4.out]
      have g13_0 := (hb.cell (p := ⟨w3.heap.size, 0, none⟩) z12_0).trans g12_0
      have g13_1 := (hb.cell (p := ⟨w3.heap.size, 1, none⟩) z12_0).trans g12_1
      have g13_2 := (hb.cell (p := ⟨w3.heap.size + 1, 0, none⟩) z12_1).trans g12_2
      have g13_3 := (hb.cell (p := ⟨w3.heap.size + 1, 1, none⟩) z12_1).trans g12_3
      have z13_0 := Nat.lt_of_lt_of_le z12_0 hb.size
      have z13_1 := Nat.lt_of_lt_of_le z12_1 hb.size
      have HB13 := Lib.hid (HB12.out.trans (hb.mono HB12.out.size))
      clear hb g12_0 g12_1 g12_2 g12_3 z12_0 z12_1
      go_wp2_with fail
      go_ret
      exact ⟨rfl, HB13.out⟩
end Go.Proofs.Ytgehbebjgmeccaa
