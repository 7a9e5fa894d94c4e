/- Contracts of functions of the program and of its reference, out of walks. Their conditions stand ahead of each. -/
import Derived.Test.YtgehbebjgmeccaaW15
set_option linter.unusedVariables false
set_option linter.unusedSimpArgs false
namespace Go.Proofs.Ytgehbebjgmeccaa
open Go.RowKit
theorem dot_bd (a b c d : Int) (h1 : InB (a, b)) (h2 : InB (c, d)) : (-70368744177664 ≤ a * c + b * d ∧ a * c + b * d ≤ 70368744177664) ∧ (-70368744177664 ≤ a * d - b * c ∧ a * d - b * c ≤ 70368744177664) := by
  have p := cross_bd a c ⟨h1.1, h1.2.1⟩ ⟨h2.1, h2.2.1⟩
  have p2 := cross_bd b d h1.2.2 h2.2.2
  have p4 := cross_bd a d ⟨h1.1, h1.2.1⟩ h2.2.2
  have p6 := cross_bd b c h1.2.2 ⟨h2.1, h2.2.1⟩
  omega
theorem between_no (a b c d : Int) (v : Value) (w : World) (h : ¬ (InB (a, b) ∧ InB (c, d))) :
    Calls Try.prog 120 #[.agg #[.int .i64 a, .int .i64 b], .agg #[.int .i64 c, .int .i64 d], v] w fun e w' => e = .returned (.tuple #[.int .i64 0, .int .i64 2]) ∧ Below w.heap.size w w' := by
  have H := Lib.hid h
  clear h
  go_enter Try.func120, Try.ntmps120
  go_wp2_with fail
  refine (Turn_no a b c d _ H.out).mono ?_
  rintro e w1 ⟨rfl, hb1⟩
  have hB := (((Below.refl w.heap.size w).alloc (Nat.le_refl _) (.cells #[.int .i64 a, .int .i64 b] 23)).alloc (by simp) (.cells #[.int .i64 c, .int .i64 d] 23)).trans (hb1.mono (by simp; omega))
  have HB := Lib.hid hB
  have z := hB.size
  clear hB hb1
  go_wp2_with fail
  go_ret2
  exact ⟨rfl, HB.out.alloc z _⟩
theorem between_full_yes (a b c d : Int) (w : World) (h1 : InB (a, b)) (h2 : InB (c, d)) :
    Calls Try.prog 120 #[.agg #[.int .i64 a, .int .i64 b], .agg #[.int .i64 c, .int .i64 d], .func (.func 116) #[] #[]] w fun e w' => e = .returned (.tuple #[.int .i64 (fullF (Ang.fineF (a * c + b * d) (a * d - b * c))), .int .i64 0]) ∧ Below w.heap.size w w' := by
  obtain ⟨q1, q2⟩ := dot_bd a b c d h1 h2
  have H1 := Lib.hid h1
  have H2 := Lib.hid h2
  clear h1 h2
  go_enter Try.func120, Try.ntmps120
  go_wp2_with fail
  refine (Turn_yes a b c d _ H1.out H2.out).mono ?_
  rintro e w1 ⟨rfl, hb1⟩
  have hB := (((Below.refl w.heap.size w).alloc (Nat.le_refl _) (.cells #[.int .i64 a, .int .i64 b] 23)).alloc (by simp) (.cells #[.int .i64 c, .int .i64 d] 23)).trans (hb1.mono (by simp; omega))
  have HB := Lib.hid hB
  have z := hB.size
  clear hB hb1
  generalize hp : a * c + b * d = p at *
  generalize hq : a * d - b * c = q at *
  have HP := Lib.hid hp
  have HQ := Lib.hid hq
  clear hp hq
  go_wp2_with fail
  go_region_held3 (fun w' => w'.cell? ⟨w1.heap.size, 0, none⟩ = some (.int .i64 p) ∧ w'.cell? ⟨w1.heap.size, 1, none⟩ = some (.int .i64 q)) (first | exact ⟨by assumption, by assumption⟩ | (simp [go_sem, *]; done))
    (first
      | (go_at_call 115; refine (measured_any _ _).mono ?_; rintro e w2 ⟨rfl, rfl⟩)
      | (go_at_call 161; refine (measured1_full (w1.heap.size + 1) p q _ (by simp) (by simp [go_sem]) q1 q2).mono ?_; rintro e w2 ⟨rfl, hb2⟩; have G0 := (hb2.cell (p := ⟨w1.heap.size, 0, none⟩) (by simp; omega)).trans (show _ = some (.int .i64 p) by simp [go_sem]); have G1 := (hb2.cell (p := ⟨w1.heap.size, 1, none⟩) (by simp; omega)).trans (show _ = some (.int .i64 q) by simp [go_sem]); have HC := Lib.hid ((((HB.out.alloc z (.cells #[.int .i64 p, .int .i64 q] 23)).alloc (by simp; omega) (.cells #[.func (.func 116) #[] #[]] 92)).drew).trans (hb2.mono (by simp; omega))); clear hb2))
  go_wp2_with fail
  go_ret2
  exact ⟨by rw [HP.out, HQ.out]; rfl, HC.out⟩
theorem Rate_yes (a b c d : Int) (w : World) (h1 : InB (a, b)) (h2 : InB (c, d)) :
    Calls Try.prog 35 #[.agg #[.int .i64 a, .int .i64 b], .agg #[.int .i64 c, .int .i64 d]] w fun e w' => e = .returned (.tuple #[.int .i64 (fullF (Ang.fineF (a * c + b * d) (a * d - b * c))), .int .i64 0]) ∧ Below w.heap.size w w' := by
  have H1 := Lib.hid h1
  have H2 := Lib.hid h2
  clear h1 h2
  go_enter Try.func35, Try.ntmps35
  go_wp2_with fail
  refine (between_full_yes a b c d _ H1.out H2.out).mono ?_
  rintro e w1 ⟨rfl, hb1⟩
  have HB := Lib.hid ((((Below.refl w.heap.size w).alloc (Nat.le_refl _) (.cells #[.int .i64 a, .int .i64 b] 23)).alloc (by simp) (.cells #[.int .i64 c, .int .i64 d] 23)).trans (hb1.mono (by simp; omega)))
  clear hb1
  go_wp2_with fail
  go_ret2
  exact ⟨rfl, HB.out⟩
theorem Rate_no (a b c d : Int) (w : World) (h : ¬ (InB (a, b) ∧ InB (c, d))) :
    Calls Try.prog 35 #[.agg #[.int .i64 a, .int .i64 b], .agg #[.int .i64 c, .int .i64 d]] w fun e w' => e = .returned (.tuple #[.int .i64 0, .int .i64 2]) ∧ Below w.heap.size w w' := by
  have H := Lib.hid h
  clear h
  go_enter Try.func35, Try.ntmps35
  go_wp2_with fail
  refine (between_no a b c d _ _ H.out).mono ?_
  rintro e w1 ⟨rfl, hb1⟩
  have HB := Lib.hid ((((Below.refl w.heap.size w).alloc (Nat.le_refl _) (.cells #[.int .i64 a, .int .i64 b] 23)).alloc (by simp) (.cells #[.int .i64 c, .int .i64 d] 23)).trans (hb1.mono (by simp; omega)))
  clear hb1
  go_wp2_with fail
  go_ret2
  exact ⟨rfl, HB.out⟩
theorem between_half_yes (a b c d : Int) (w : World) (h1 : InB (a, b)) (h2 : InB (c, d)) :
    Calls Try.prog 120 #[.agg #[.int .i64 a, .int .i64 b], .agg #[.int .i64 c, .int .i64 d], .func (.func 118) #[] #[]] w fun e w' => e = .returned (.tuple #[.int .i64 (halfF (Ang.fineF (a * c + b * d) (a * d - b * c))), .int .i64 0]) ∧ Below w.heap.size w w' := by
  obtain ⟨q1, q2⟩ := dot_bd a b c d h1 h2
  have H1 := Lib.hid h1
  have H2 := Lib.hid h2
  clear h1 h2
  go_enter Try.func120, Try.ntmps120
  go_wp2_with fail
  refine (Turn_yes a b c d _ H1.out H2.out).mono ?_
  rintro e w1 ⟨rfl, hb1⟩
  have hB := (((Below.refl w.heap.size w).alloc (Nat.le_refl _) (.cells #[.int .i64 a, .int .i64 b] 23)).alloc (by simp) (.cells #[.int .i64 c, .int .i64 d] 23)).trans (hb1.mono (by simp; omega))
  have HB := Lib.hid hB
  have z := hB.size
  clear hB hb1
  generalize hp : a * c + b * d = p at *
  generalize hq : a * d - b * c = q at *
  have HP := Lib.hid hp
  have HQ := Lib.hid hq
  clear hp hq
  go_wp2_with fail
  go_region_held3 (fun w' => w'.cell? ⟨w1.heap.size, 0, none⟩ = some (.int .i64 p) ∧ w'.cell? ⟨w1.heap.size, 1, none⟩ = some (.int .i64 q)) (first | exact ⟨by assumption, by assumption⟩ | (simp [go_sem, *]; done))
    (first
      | (go_at_call 115; refine (measured_any _ _).mono ?_; rintro e w2 ⟨rfl, rfl⟩)
      | (go_at_call 161; refine (measured1_half (w1.heap.size + 1) p q _ (by simp) (by simp [go_sem]) q1 q2).mono ?_; rintro e w2 ⟨rfl, hb2⟩; have G0 := (hb2.cell (p := ⟨w1.heap.size, 0, none⟩) (by simp; omega)).trans (show _ = some (.int .i64 p) by simp [go_sem]); have G1 := (hb2.cell (p := ⟨w1.heap.size, 1, none⟩) (by simp; omega)).trans (show _ = some (.int .i64 q) by simp [go_sem]); have HC := Lib.hid ((((HB.out.alloc z (.cells #[.int .i64 p, .int .i64 q] 23)).alloc (by simp; omega) (.cells #[.func (.func 118) #[] #[]] 92)).drew).trans (hb2.mono (by simp; omega))); clear hb2))
  go_wp2_with fail
  go_ret2
  exact ⟨by rw [HP.out, HQ.out]; rfl, HC.out⟩
theorem HalfRate_yes (a b c d : Int) (w : World) (h1 : InB (a, b)) (h2 : InB (c, d)) :
    Calls Try.prog 37 #[.agg #[.int .i64 a, .int .i64 b], .agg #[.int .i64 c, .int .i64 d]] w fun e w' => e = .returned (.tuple #[.int .i64 (halfF (Ang.fineF (a * c + b * d) (a * d - b * c))), .int .i64 0]) ∧ Below w.heap.size w w' := by
  have H1 := Lib.hid h1
  have H2 := Lib.hid h2
  clear h1 h2
  go_enter Try.func37, Try.ntmps37
  go_wp2_with fail
  refine (between_half_yes a b c d _ H1.out H2.out).mono ?_
  rintro e w1 ⟨rfl, hb1⟩
  have HB := Lib.hid ((((Below.refl w.heap.size w).alloc (Nat.le_refl _) (.cells #[.int .i64 a, .int .i64 b] 23)).alloc (by simp) (.cells #[.int .i64 c, .int .i64 d] 23)).trans (hb1.mono (by simp; omega)))
  clear hb1
  go_wp2_with fail
  go_ret2
  exact ⟨rfl, HB.out⟩
theorem HalfRate_no (a b c d : Int) (w : World) (h : ¬ (InB (a, b) ∧ InB (c, d))) :
    Calls Try.prog 37 #[.agg #[.int .i64 a, .int .i64 b], .agg #[.int .i64 c, .int .i64 d]] w fun e w' => e = .returned (.tuple #[.int .i64 0, .int .i64 2]) ∧ Below w.heap.size w w' := by
  have H := Lib.hid h
  clear h
  go_enter Try.func37, Try.ntmps37
  go_wp2_with fail
  refine (between_no a b c d _ _ H.out).mono ?_
  rintro e w1 ⟨rfl, hb1⟩
  have HB := Lib.hid ((((Below.refl w.heap.size w).alloc (Nat.le_refl _) (.cells #[.int .i64 a, .int .i64 b] 23)).alloc (by simp) (.cells #[.int .i64 c, .int .i64 d] 23)).trans (hb1.mono (by simp; omega)))
  clear hb1
  go_wp2_with fail
  go_ret2
  exact ⟨rfl, HB.out⟩
end Go.Proofs.Ytgehbebjgmeccaa
