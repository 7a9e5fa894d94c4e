/- Contracts of functions of the program and of its reference, out of walks. Their conditions stand ahead of each. -/
import Derived.Test.YtgehbebjgmeccaaW7
set_option linter.unusedVariables false
set_option linter.unusedSimpArgs false
namespace Go.Proofs.Ytgehbebjgmeccaa
open Go.RowKit
theorem Fine_x (x y : Int) (hx0 : x ≠ 0) (hx : -70368744177664 ≤ x ∧ x ≤ 70368744177664) (hy : -70368744177664 ≤ y ∧ y ≤ 70368744177664) (w : World) :
    Calls Try.prog 50 #[.agg #[.int .i64 x, .int .i64 y]] w fun e w' => e = .returned (.tuple #[.int .i64 (Ang.fineF x y), .int .i64 0]) ∧ Below w.heap.size w w' := by
  have h0 : (x == 0) = false := by simpa using hx0
  have hne : x ≠ 0 ∨ y ≠ 0 := Or.inl hx0
  have hsec := Ang.secF_is x y hne
  have k0 := hsec.1
  have k1 := hsec.2.1
  have hfab := Ang.fab hsec
  have hfe := Ang.fineF_eq hne
  have hfl : Ang.fl x y = 64 * Ang.fa x y / (Ang.fa x y + Ang.fb x y) := rfl
  rw [hfl, hfab.1, hfab.2.1] at hfe
  have hpos := hfab.2.2
  rw [hfab.1, hfab.2.1] at hpos
  unfold Ang.d at hfe hpos
  have HFE := Lib.hid hfe
  clear hsec hfab hfl hne hfe hx0
  generalize hk : Ang.secF x y = k at *
  have HK := Lib.hid hk
  clear hk
  have m := mi_bd k
  have p1 := mulbd (Ang.mi k) y 254 70368744177664 m.1 m.2.1 hy.1 hy.2
  have p2 := mulbd (Ang.mq k) x 254 70368744177664 m.2.2.1 m.2.2.2 hx.1 hx.2
  have m' := mi_bd (k - 1)
  have p3 := mulbd (Ang.mi (k - 1)) y 254 70368744177664 m'.1 m'.2.1 hy.1 hy.2
  have p4 := mulbd (Ang.mq (k - 1)) x 254 70368744177664 m'.2.2.1 m'.2.2.2 hx.1 hx.2
  have e1 := Int.mul_comm (Ang.mi k) y
  have e2 := Int.mul_comm (Ang.mq k) x
  rw [e1] at p1
  rw [e2] at p2
  rw [e1, e2] at hpos
  have hfe := HFE.out
  rw [e1, e2] at hfe
  have HF := Lib.hid hfe
  clear hfe HFE m m' e1 e2
  go_enter Try.func50, Try.ntmps50
  go_wp2_with fail
  refine (Sector_yes x y hx hy _).mono ?_
  rintro e w1 ⟨rfl, hb1⟩
  rw [HK.out]
  obtain ⟨g1, f1, z1⟩ := step2 (b := w.heap.size) hb1 (by simp)
  have c0 : w1.cell? ⟨w.heap.size, 0, none⟩ = some (.int .i64 x) := by rw [g1]; simp [go_sem]
  have c1 : w1.cell? ⟨w.heap.size, 1, none⟩ = some (.int .i64 y) := by rw [g1]; simp [go_sem]
  clear g1 f1
  have HB1 := ((Below.refl _ _).alloc (Nat.le_refl _) _).trans (hb1.mono (by simp))
  have hb0 := Lib.hid HB1
  clear HB1 hb1
  have w1' : IntKind.i64.wrap (k - 1) = k - 1 := IntWalk.i64_in _ (by omega)
  go_wp2_with fail
  go_region_held3 (fun w' => w'.cell? ⟨w.heap.size, 0, none⟩ = some (.int .i64 x) ∧ w'.cell? ⟨w.heap.size, 1, none⟩ = some (.int .i64 y)) (first | exact ⟨by assumption, by assumption⟩ | (simp [go_sem, *]; done))
    (first
      | (go_at_call 129; refine (boundary_any _ (by omega) (by omega) _).mono ?_; rintro e w1 ⟨rfl, hb1⟩; obtain ⟨g1, g2, z1⟩ := step2 (b := w.heap.size) hb1 (by assumption); have G0 := (g1 0).trans (by assumption); have G1 := (g1 1).trans (by assumption); have HC := Lib.hid (show Below w.heap.size w _ by first | exact (Hid.out ‹Hid (Below w.heap.size w _)›).trans (hb1.mono (by omega)) | exact (Hid.out ‹Hid (Below w.heap.size w _)›).drew.trans (hb1.mono (Nat.le_of_lt (by assumption)))); clear hb1 g1 g2)
      | (go_at_call 130; refine (cross_any _ _ _ _ (by omega) (by omega) (by omega) _).mono ?_; rintro e w2 ⟨rfl, hb2⟩; obtain ⟨g1, g2, z2⟩ := step2 (b := w.heap.size) hb2 (by assumption); have G2 := (g1 0).trans (by assumption); have G3 := (g1 1).trans (by assumption); have HC := Lib.hid (show Below w.heap.size w _ by first | exact (Hid.out ‹Hid (Below w.heap.size w _)›).trans (hb2.mono (by omega)) | exact (Hid.out ‹Hid (Below w.heap.size w _)›).drew.trans (hb2.mono (Nat.le_of_lt (by assumption)))); clear hb2 g1 g2))
  generalize hA : Ang.mi (k - 1) * y - Ang.mq (k - 1) * x = A at *
  have hB : x * Ang.mq k - y * Ang.mi k = -(y * Ang.mi k - x * Ang.mq k) := by omega
  rw [hB]
  clear hB
  generalize hB : -(y * Ang.mi k - x * Ang.mq k) = B at *
  obtain ⟨A0, B0⟩ := hpos
  have A1 : A ≤ 40000000000000000 := by omega
  have B1 : B ≤ 40000000000000000 := by omega
  clear hA hB p1 p2 p3 p4
  have q0 : 0 ≤ 64 * A / (A + B) := Int.ediv_nonneg (by omega) (by omega)
  have q1 : 64 * A / (A + B) < 64 := Int.ediv_lt_of_lt_mul (by omega) (by omega)
  go_wp2_with fail
  have hz : (64 * k - 32 + 64 * A / (A + B) + 4096) % 4096 = Ang.fineF x y := by rw [HF.out]; omega
  rw [hz]
  go_ret2
  exact ⟨rfl, HC.out⟩
theorem Fine_y (x y : Int) (hy0 : y ≠ 0) (hx : -70368744177664 ≤ x ∧ x ≤ 70368744177664) (hy : -70368744177664 ≤ y ∧ y ≤ 70368744177664) (w : World) :
    Calls Try.prog 50 #[.agg #[.int .i64 x, .int .i64 y]] w fun e w' => e = .returned (.tuple #[.int .i64 (Ang.fineF x y), .int .i64 0]) ∧ Below w.heap.size w w' := by
  have h0 : (y == 0) = false := by simpa using hy0
  have hne : x ≠ 0 ∨ y ≠ 0 := Or.inr hy0
  have hsec := Ang.secF_is x y hne
  have k0 := hsec.1
  have k1 := hsec.2.1
  have hfab := Ang.fab hsec
  have hfe := Ang.fineF_eq hne
  have hfl : Ang.fl x y = 64 * Ang.fa x y / (Ang.fa x y + Ang.fb x y) := rfl
  rw [hfl, hfab.1, hfab.2.1] at hfe
  have hpos := hfab.2.2
  rw [hfab.1, hfab.2.1] at hpos
  unfold Ang.d at hfe hpos
  have HFE := Lib.hid hfe
  clear hsec hfab hfl hne hfe hy0
  generalize hk : Ang.secF x y = k at *
  have HK := Lib.hid hk
  clear hk
  have m := mi_bd k
  have p1 := mulbd (Ang.mi k) y 254 70368744177664 m.1 m.2.1 hy.1 hy.2
  have p2 := mulbd (Ang.mq k) x 254 70368744177664 m.2.2.1 m.2.2.2 hx.1 hx.2
  have m' := mi_bd (k - 1)
  have p3 := mulbd (Ang.mi (k - 1)) y 254 70368744177664 m'.1 m'.2.1 hy.1 hy.2
  have p4 := mulbd (Ang.mq (k - 1)) x 254 70368744177664 m'.2.2.1 m'.2.2.2 hx.1 hx.2
  have e1 := Int.mul_comm (Ang.mi k) y
  have e2 := Int.mul_comm (Ang.mq k) x
  rw [e1] at p1
  rw [e2] at p2
  rw [e1, e2] at hpos
  have hfe := HFE.out
  rw [e1, e2] at hfe
  have HF := Lib.hid hfe
  clear hfe HFE m m' e1 e2
  go_enter Try.func50, Try.ntmps50
  go_wp2_with fail
  refine (Sector_yes x y hx hy _).mono ?_
  rintro e w1 ⟨rfl, hb1⟩
  rw [HK.out]
  obtain ⟨g1, f1, z1⟩ := step2 (b := w.heap.size) hb1 (by simp)
  have c0 : w1.cell? ⟨w.heap.size, 0, none⟩ = some (.int .i64 x) := by rw [g1]; simp [go_sem]
  have c1 : w1.cell? ⟨w.heap.size, 1, none⟩ = some (.int .i64 y) := by rw [g1]; simp [go_sem]
  clear g1 f1
  have HB1 := ((Below.refl _ _).alloc (Nat.le_refl _) _).trans (hb1.mono (by simp))
  have hb0 := Lib.hid HB1
  clear HB1 hb1
  have w1' : IntKind.i64.wrap (k - 1) = k - 1 := IntWalk.i64_in _ (by omega)
  go_wp2_with fail
  go_region_held3 (fun w' => w'.cell? ⟨w.heap.size, 0, none⟩ = some (.int .i64 x) ∧ w'.cell? ⟨w.heap.size, 1, none⟩ = some (.int .i64 y)) (first | exact ⟨by assumption, by assumption⟩ | (simp [go_sem, *]; done))
    (first
      | (go_at_call 129; refine (boundary_any _ (by omega) (by omega) _).mono ?_; rintro e w1 ⟨rfl, hb1⟩; obtain ⟨g1, g2, z1⟩ := step2 (b := w.heap.size) hb1 (by assumption); have G0 := (g1 0).trans (by assumption); have G1 := (g1 1).trans (by assumption); have HC := Lib.hid (show Below w.heap.size w _ by first | exact (Hid.out ‹Hid (Below w.heap.size w _)›).trans (hb1.mono (by omega)) | exact (Hid.out ‹Hid (Below w.heap.size w _)›).drew.trans (hb1.mono (Nat.le_of_lt (by assumption)))); clear hb1 g1 g2)
      | (go_at_call 130; refine (cross_any _ _ _ _ (by omega) (by omega) (by omega) _).mono ?_; rintro e w2 ⟨rfl, hb2⟩; obtain ⟨g1, g2, z2⟩ := step2 (b := w.heap.size) hb2 (by assumption); have G2 := (g1 0).trans (by assumption); have G3 := (g1 1).trans (by assumption); have HC := Lib.hid (show Below w.heap.size w _ by first | exact (Hid.out ‹Hid (Below w.heap.size w _)›).trans (hb2.mono (by omega)) | exact (Hid.out ‹Hid (Below w.heap.size w _)›).drew.trans (hb2.mono (Nat.le_of_lt (by assumption)))); clear hb2 g1 g2))
  generalize hA : Ang.mi (k - 1) * y - Ang.mq (k - 1) * x = A at *
  have hB : x * Ang.mq k - y * Ang.mi k = -(y * Ang.mi k - x * Ang.mq k) := by omega
  rw [hB]
  clear hB
  generalize hB : -(y * Ang.mi k - x * Ang.mq k) = B at *
  obtain ⟨A0, B0⟩ := hpos
  have A1 : A ≤ 40000000000000000 := by omega
  have B1 : B ≤ 40000000000000000 := by omega
  clear hA hB p1 p2 p3 p4
  have q0 : 0 ≤ 64 * A / (A + B) := Int.ediv_nonneg (by omega) (by omega)
  have q1 : 64 * A / (A + B) < 64 := Int.ediv_lt_of_lt_mul (by omega) (by omega)
  go_wp2_with fail
  have hz : (64 * k - 32 + 64 * A / (A + B) + 4096) % 4096 = Ang.fineF x y := by rw [HF.out]; omega
  rw [hz]
  go_ret2
  exact ⟨rfl, HC.out⟩
theorem Fine_yes (x y : Int) (hx : -70368744177664 ≤ x ∧ x ≤ 70368744177664) (hy : -70368744177664 ≤ y ∧ y ≤ 70368744177664) (w : World) :
    Calls Try.prog 50 #[.agg #[.int .i64 x, .int .i64 y]] w fun e w' => e = .returned (.tuple #[.int .i64 (Ang.fineF x y), .int .i64 0]) ∧ Below w.heap.size w w' := by
  by_cases h : x ≠ 0
  · exact Fine_x x y h hx hy w
  by_cases h' : y ≠ 0
  · exact Fine_y x y h' hx hy w
  · have e1 : x = 0 := by omega
    have e2 : y = 0 := by omega
    subst e1 e2
    exact Fine_zero w
end Go.Proofs.Ytgehbebjgmeccaa
