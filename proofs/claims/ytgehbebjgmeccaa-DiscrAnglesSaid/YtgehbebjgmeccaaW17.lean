/- Contracts of functions of the program and of its reference, out of walks. Their conditions stand ahead of each. -/
import Derived.Test.YtgehbebjgmeccaaW15
set_option linter.unusedVariables false
set_option linter.unusedSimpArgs false
namespace Go.Proofs.Ytgehbebjgmeccaa
open Go.RowKit
theorem rinside_yes (x y : Int) (h : InB (x, y)) (w : World) :
    Calls Try.prog 111 #[.agg #[.int .i64 x, .int .i64 y]] w fun e w' => e = .returned (.bool true) ∧ Below w.heap.size w w' := by
  obtain ⟨x0, x1, y0, y1⟩ := h
  go_enter Try.func111, Try.ntmps111
  go_wp2_with fail
  all_goals go_ret
  all_goals exact ⟨rfl, (Below.refl _ _).alloc (Nat.le_refl _) _⟩
theorem rinside_no (x y : Int) (h : ¬ InB (x, y)) (w : World) :
    Calls Try.prog 111 #[.agg #[.int .i64 x, .int .i64 y]] w fun e w' => e = .returned (.bool false) ∧ Below w.heap.size w w' := by
  have H := Lib.hid h
  clear h
  go_enter Try.func111, Try.ntmps111
  go_wp2_with fail
  all_goals go_ret
  all_goals refine ⟨?_, (Below.refl _ _).alloc (Nat.le_refl _) _⟩
  all_goals have := H.out
  all_goals unfold InB at this
  all_goals first | rfl | (simp at this ⊢; omega)
theorem rLock_no (x y : Int) (h : ¬ InB (x, y)) (w : World) :
    Calls Try.prog 31 #[.agg #[.int .i64 x, .int .i64 y]] w fun e w' => e = .returned (.tuple #[.int .i64 0, .int .i64 2]) ∧ Below w.heap.size w w' := by
  have H := Lib.hid h
  clear h
  go_enter Try.func31, Try.ntmps31
  go_wp2_with fail
  refine (rinside_no x y H.out _).mono ?_
  rintro e w1 ⟨rfl, hb1⟩
  go_wp2_with fail
  go_ret2
  exact ⟨rfl, ((Below.refl _ _).alloc (Nat.le_refl _) _).trans (hb1.mono (by simp))⟩
theorem rLock_yes (x y : Int) (h : InB (x, y)) (w : World) :
    Calls Try.prog 31 #[.agg #[.int .i64 x, .int .i64 y]] w fun e w' => e = .returned (.tuple #[.int .i64 (shareF (x * x - y * y) (x * x + y * y)), .int .i64 0]) ∧ Below w.heap.size w w' := by
  have HIN := Lib.hid h
  obtain ⟨x0, x1, y0, y1⟩ := h
  have ⟨a0, a1⟩ := sq_bd x x0 x1
  have ⟨b0, b1⟩ := sq_bd y y0 y1
  have q1 : IntKind.i64.wrap (x * x) = x * x := IntWalk.i64_in _ (by omega)
  have q2 : IntKind.i64.wrap (y * y) = y * y := IntWalk.i64_in _ (by omega)
  have q3 : IntKind.i64.wrap (x * x - y * y) = x * x - y * y := IntWalk.i64_in _ (by omega)
  go_enter Try.func31, Try.ntmps31
  go_wp2_with fail
  refine (rinside_yes x y HIN.out _).mono ?_
  rintro e w1 ⟨rfl, hb1⟩
  have d0 := (hb1.cell (p := ⟨w.heap.size, 0, none⟩) (by simp)).trans (show _ = some (.int .i64 x) by simp [go_sem])
  have d1 := (hb1.cell (p := ⟨w.heap.size, 1, none⟩) (by simp)).trans (show _ = some (.int .i64 y) by simp [go_sem])
  have z := hb1.size
  simp only [World.size_alloc] at z
  have z0 : w.heap.size < w1.heap.size := by omega
  have hb0 := Lib.hid (((Below.refl w.heap.size w).alloc (Nat.le_refl _) (.cells #[.int .i64 x, .int .i64 y] 23)).trans (hb1.mono (by simp)))
  clear hb1
  go_wp2_with fail
  go_region_held3 (fun w' => w'.cell? ⟨w.heap.size, 0, none⟩ = some (.int .i64 x) ∧ w'.cell? ⟨w.heap.size, 1, none⟩ = some (.int .i64 y)) (first | exact ⟨by assumption, by assumption⟩ | (simp [go_sem, *]; done))
    (first
      | (go_at_call 112; refine (rpower_any _ _ HIN.out _).mono ?_; rintro e w2 ⟨rfl, hb2⟩; have G0 := (hb2.cell (p := ⟨w.heap.size, 0, none⟩) z0).trans d0; have G1 := (hb2.cell (p := ⟨w.heap.size, 1, none⟩) z0).trans d1; have HC := Lib.hid (hb0.out.drew.trans (hb2.mono (Nat.le_of_lt z0))); clear hb2)
      | (go_at_call 113; refine (rshare_any _ _ (by omega) (by omega) (by omega) _).mono ?_; rintro e w2 ⟨rfl, rfl⟩))
  go_wp2_with fail
  go_ret2
  exact ⟨rfl, HC.out⟩
theorem rFull_no (x y : Int) (h : ¬ InB (x, y)) (w : World) :
    Calls Try.prog 27 #[.agg #[.int .i64 x, .int .i64 y]] w fun e w' => e = .returned (.tuple #[.int .i64 0, .int .i64 2]) ∧ Below w.heap.size w w' := by
  have H := Lib.hid h
  clear h
  go_enter Try.func27, Try.ntmps27
  go_wp2_with fail
  refine (rinside_no x y H.out _).mono ?_
  rintro e w1 ⟨rfl, hb1⟩
  go_wp2_with fail
  go_ret2
  exact ⟨rfl, ((Below.refl _ _).alloc (Nat.le_refl _) _).trans (hb1.mono (by simp))⟩
theorem rFull_yes (x y : Int) (h : InB (x, y)) (w : World) :
    Calls Try.prog 27 #[.agg #[.int .i64 x, .int .i64 y]] w fun e w' => e = .returned (.tuple #[.int .i64 (fullF (Ang.fineF x y)), .int .i64 0]) ∧ Below w.heap.size w w' := by
  have HIN := Lib.hid h
  obtain ⟨x0, x1, y0, y1⟩ := h
  have hf := Ang.fineF_bd x y
  unfold fullF
  go_enter Try.func27, Try.ntmps27
  go_wp2_with fail
  refine (rinside_yes x y HIN.out _).mono ?_
  rintro e w1 ⟨rfl, hb1⟩
  have d0 := (hb1.cell (p := ⟨w.heap.size, 0, none⟩) (by simp)).trans (show _ = some (.int .i64 x) by simp [go_sem])
  have d1 := (hb1.cell (p := ⟨w.heap.size, 1, none⟩) (by simp)).trans (show _ = some (.int .i64 y) by simp [go_sem])
  have z := hb1.size
  simp only [World.size_alloc] at z
  have HB := Lib.hid (((Below.refl w.heap.size w).alloc (Nat.le_refl _) (.cells #[.int .i64 x, .int .i64 y] 23)).trans (hb1.mono (by simp)))
  clear hb1
  go_wp2_with fail
  refine (rFine_yes x y (by omega) (by omega) _).mono ?_
  rintro e w2 ⟨rfl, hb2⟩
  have HC := Lib.hid (HB.out.trans (hb2.mono (by omega)))
  clear hb2
  go_wp2_with fail
  refine (within_full _ (by omega) (by omega) _).mono ?_
  rintro e w3 ⟨rfl, rfl⟩
  go_wp2_with fail
  go_ret2
  exact ⟨rfl, HC.out⟩
theorem rHalf_no (x y : Int) (h : ¬ InB (x, y)) (w : World) :
    Calls Try.prog 29 #[.agg #[.int .i64 x, .int .i64 y]] w fun e w' => e = .returned (.tuple #[.int .i64 0, .int .i64 2]) ∧ Below w.heap.size w w' := by
  have H := Lib.hid h
  clear h
  go_enter Try.func29, Try.ntmps29
  go_wp2_with fail
  refine (rinside_no x y H.out _).mono ?_
  rintro e w1 ⟨rfl, hb1⟩
  go_wp2_with fail
  go_ret2
  exact ⟨rfl, ((Below.refl _ _).alloc (Nat.le_refl _) _).trans (hb1.mono (by simp))⟩
theorem rHalf_yes (x y : Int) (h : InB (x, y)) (w : World) :
    Calls Try.prog 29 #[.agg #[.int .i64 x, .int .i64 y]] w fun e w' => e = .returned (.tuple #[.int .i64 (halfF (Ang.fineF x y)), .int .i64 0]) ∧ Below w.heap.size w w' := by
  have HIN := Lib.hid h
  obtain ⟨x0, x1, y0, y1⟩ := h
  have hf := Ang.fineF_bd x y
  unfold halfF
  go_enter Try.func29, Try.ntmps29
  go_wp2_with fail
  refine (rinside_yes x y HIN.out _).mono ?_
  rintro e w1 ⟨rfl, hb1⟩
  have d0 := (hb1.cell (p := ⟨w.heap.size, 0, none⟩) (by simp)).trans (show _ = some (.int .i64 x) by simp [go_sem])
  have d1 := (hb1.cell (p := ⟨w.heap.size, 1, none⟩) (by simp)).trans (show _ = some (.int .i64 y) by simp [go_sem])
  have z := hb1.size
  simp only [World.size_alloc] at z
  have HB := Lib.hid (((Below.refl w.heap.size w).alloc (Nat.le_refl _) (.cells #[.int .i64 x, .int .i64 y] 23)).trans (hb1.mono (by simp)))
  clear hb1
  go_wp2_with fail
  refine (rFine_yes x y (by omega) (by omega) _).mono ?_
  rintro e w2 ⟨rfl, hb2⟩
  have HC := Lib.hid (HB.out.trans (hb2.mono (by omega)))
  clear hb2
  go_wp2_with fail
  refine (within_half _ (by omega) (by omega) _).mono ?_
  rintro e w3 ⟨rfl, rfl⟩
  go_wp2_with fail
  go_ret2
  exact ⟨rfl, HC.out⟩
theorem rTurn_yes (a b c d : Int) (w : World) (h1 : InB (a, b)) (h2 : InB (c, d)) :
    Calls Try.prog 34 #[.agg #[.int .i64 a, .int .i64 b], .agg #[.int .i64 c, .int .i64 d]] w fun e w' => e = .returned (.tuple #[.agg #[.int .i64 (a * c + b * d), .int .i64 (a * d - b * c)], .int .i64 0]) ∧ Below w.heap.size w w' := by
  have H1 := Lib.hid h1
  have H2 := Lib.hid h2
  obtain ⟨a0, a1, b0, b1⟩ := h1
  obtain ⟨c0, c1, d0, d1⟩ := h2
  have ⟨p0, p1⟩ := cross_bd a c ⟨a0, a1⟩ ⟨c0, c1⟩
  have ⟨p2, p3⟩ := cross_bd b d ⟨b0, b1⟩ ⟨d0, d1⟩
  have ⟨p4, p5⟩ := cross_bd a d ⟨a0, a1⟩ ⟨d0, d1⟩
  have ⟨p6, p7⟩ := cross_bd b c ⟨b0, b1⟩ ⟨c0, c1⟩
  rw [Int.mul_comm a c, Int.mul_comm b d, Int.mul_comm a d, Int.mul_comm b c]
  rw [Int.mul_comm a c] at p0 p1
  rw [Int.mul_comm b d] at p2 p3
  rw [Int.mul_comm a d] at p4 p5
  rw [Int.mul_comm b c] at p6 p7
  go_enter Try.func34, Try.ntmps34
  go_wp2_with fail
  refine (rinside_yes a b H1.out _).mono ?_
  rintro e w1 ⟨rfl, hb1⟩
  obtain ⟨hc, hf⟩ := bcell hb1
  have z := hb1.size
  simp only [World.size_alloc] at z
  have z0 : w.heap.size < w1.heap.size := by omega
  have z1 : w.heap.size + 1 < w1.heap.size := by omega
  have z2 : w.heap.size + 1 + 1 < w1.heap.size := by omega
  have HB := Lib.hid (((((Below.refl w.heap.size w).alloc (Nat.le_refl _) (.cells #[.int .i64 a, .int .i64 b] 23)).alloc (by simp) (.cells #[.int .i64 c, .int .i64 d] 23)).alloc (by simp; omega) (.cells #[.int .i64 0, .int .i64 0] 23)).trans (hb1.mono (by simp; omega)))
  clear hb1
  go_wp2_with fail
  refine (rinside_yes c d H2.out _).mono ?_
  rintro e w2 ⟨rfl, hb2⟩
  obtain ⟨hc2, hf2⟩ := bcell hb2
  have y := hb2.size
  have y0 : w.heap.size < w2.heap.size := by omega
  have y1 : w.heap.size + 1 < w2.heap.size := by omega
  have y2 : w.heap.size + 1 + 1 < w2.heap.size := by omega
  have HC := Lib.hid (HB.out.trans (hb2.mono (by omega)))
  clear hb2
  go_wp2_with fail
  refine bodyPost_ret (v := .tuple #[.agg #[.int .i64 (c * a + d * b), .int .i64 (d * a - c * b)], .int .i64 0]) (by simp [results, Try.results34, go_sem, hc, hc2, z0, z1, z2, y0, y1, y2]) rfl ⟨rfl, ?_⟩
  exact (HC.out.setCell (by simp; omega) _).setCell (by simp; omega) _
theorem rTurn_no (a b c d : Int) (w : World) (h : ¬ (InB (a, b) ∧ InB (c, d))) :
    Calls Try.prog 34 #[.agg #[.int .i64 a, .int .i64 b], .agg #[.int .i64 c, .int .i64 d]] w fun e w' => e = .returned (.tuple #[.agg #[.int .i64 0, .int .i64 0], .int .i64 2]) ∧ Below w.heap.size w w' := by
  by_cases h1 : InB (a, b)
  · have h2 : ¬ InB (c, d) := fun k => h ⟨h1, k⟩
    have H1 := Lib.hid h1
    have H2 := Lib.hid h2
    clear h h1 h2
    go_enter Try.func34, Try.ntmps34
    go_wp2_with fail
    refine (rinside_yes a b H1.out _).mono ?_
    rintro e w1 ⟨rfl, hb1⟩
    obtain ⟨hc, hf⟩ := bcell hb1
    have z := hb1.size
    simp only [World.size_alloc] at z
    have z0 : w.heap.size < w1.heap.size := by omega
    have z1 : w.heap.size + 1 < w1.heap.size := by omega
    have z2 : w.heap.size + 1 + 1 < w1.heap.size := by omega
    have HB := Lib.hid (((((Below.refl w.heap.size w).alloc (Nat.le_refl _) (.cells #[.int .i64 a, .int .i64 b] 23)).alloc (by simp) (.cells #[.int .i64 c, .int .i64 d] 23)).alloc (by simp; omega) (.cells #[.int .i64 0, .int .i64 0] 23)).trans (hb1.mono (by simp; omega)))
    clear hb1
    go_wp2_with fail
    refine (rinside_no c d H2.out _).mono ?_
    rintro e w2 ⟨rfl, hb2⟩
    obtain ⟨hc2, hf2⟩ := bcell hb2
    have y := hb2.size
    have y2 : w.heap.size + 1 + 1 < w2.heap.size := by omega
    have HC := Lib.hid (HB.out.trans (hb2.mono (by omega)))
    clear hb2
    go_wp2_with fail
    refine bodyPost_ret (v := .tuple #[.agg #[.int .i64 0, .int .i64 0], .int .i64 2]) (by simp [results, Try.results34, go_sem, hc, hc2, z2, y2]) rfl ⟨rfl, ?_⟩
    exact (HC.out.setCell (by simp; omega) _).setCell (by simp; omega) _
  · have H1 := Lib.hid h1
    clear h h1
    go_enter Try.func34, Try.ntmps34
    go_wp2_with fail
    refine (rinside_no a b H1.out _).mono ?_
    rintro e w1 ⟨rfl, hb1⟩
    obtain ⟨hc, hf⟩ := bcell hb1
    have z := hb1.size
    simp only [World.size_alloc] at z
    have z2 : w.heap.size + 1 + 1 < w1.heap.size := by omega
    have HB := Lib.hid (((((Below.refl w.heap.size w).alloc (Nat.le_refl _) (.cells #[.int .i64 a, .int .i64 b] 23)).alloc (by simp) (.cells #[.int .i64 c, .int .i64 d] 23)).alloc (by simp; omega) (.cells #[.int .i64 0, .int .i64 0] 23)).trans (hb1.mono (by simp; omega)))
    clear hb1
    go_wp2_with fail
    refine bodyPost_ret (v := .tuple #[.agg #[.int .i64 0, .int .i64 0], .int .i64 2]) (by simp [results, Try.results34, go_sem, hc, z2]) rfl ⟨rfl, ?_⟩
    exact (HB.out.setCell (by simp; omega) _).setCell (by simp; omega) _
end Go.Proofs.Ytgehbebjgmeccaa
