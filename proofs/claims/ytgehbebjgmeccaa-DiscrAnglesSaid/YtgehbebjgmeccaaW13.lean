/- Contracts of functions of the program and of its reference, out of walks. Their conditions stand ahead of each. -/
import Derived.Test.YtgehbebjgmeccaaW12
set_option linter.unusedVariables false
set_option linter.unusedSimpArgs false
namespace Go.Proofs.Ytgehbebjgmeccaa
open Go.RowKit
def fullF (t : Int) : Int := (t + 2048) % 4096 - 2048
def halfF (t : Int) : Int := (t + 1024) % 2048 - 1024
theorem measured_any (g : Nat) (w : World) :
    Calls Try.prog 115 #[.func (.func g) #[] #[]] w fun e w' => e = .returned (.func (.func 161) #[] #[.pointer (some ⟨w.heap.size, 0, none⟩)]) ∧ w' = w.alloc (.cells #[.func (.func g) #[] #[]] 92) := by
  go_enter Try.func115, Try.ntmps115
  go_wp2_with fail
  go_ret
  exact ⟨rfl, rfl⟩
theorem checked_any (g : Nat) (cap : Array Value) (w : World) :
    Calls Try.prog 114 #[.func (.func g) #[] cap] w fun e w' => e = .returned (.func (.func 160) #[] #[.pointer (some ⟨w.heap.size, 0, none⟩)]) ∧ w' = w.alloc (.cells #[.func (.func g) #[] cap] 89) := by
  go_enter Try.func114, Try.ntmps114
  go_wp2_with fail
  go_ret
  exact ⟨rfl, rfl⟩
theorem in1 {b : Nat} {x y : Int} {w : World} (c0 : w.cell? ⟨b, 0, none⟩ = some (.int .i64 x)) (c1 : w.cell? ⟨b, 1, none⟩ = some (.int .i64 y)) : ∀ i, i < 1 → w.cell? ⟨b, i * 2, none⟩ = some (.int .i64 ((fun _ => (x, y)) i : Int × Int).1) ∧ w.cell? ⟨b, i * 2 + 1, none⟩ = some (.int .i64 ((fun _ => (x, y)) i : Int × Int).2) := by
  intro i h
  obtain rfl : i = 0 := by omega
  exact ⟨c0, c1⟩
theorem measured1_full (b : Nat) (x y : Int) (w : World) (hbs : b < w.heap.size) (c0 : w.cell? ⟨b, 0, none⟩ = some (.func (.func 116) #[] #[])) (hx : -70368744177664 ≤ x ∧ x ≤ 70368744177664) (hy : -70368744177664 ≤ y ∧ y ≤ 70368744177664) :
    Calls Try.prog 161 #[.agg #[.int .i64 x, .int .i64 y], .pointer (some ⟨b, 0, none⟩)] w fun e w' => e = .returned (.int .i64 (fullF (Ang.fineF x y))) ∧ Below w.heap.size w w' := by
  have hf := Ang.fineF_bd x y
  unfold fullF
  have hne : b ≠ w.heap.size := by omega
  go_enter Try.func161, Try.ntmps161
  go_wp2_with fail
  refine (Fine_yes x y hx hy _).mono ?_
  rintro e w1 ⟨rfl, hb1⟩
  obtain ⟨g1, g2, z1⟩ := step2 (b := b) hb1 (by simp; omega)
  have d0 : w1.cell? ⟨b, 0, none⟩ = some (.func (.func 116) #[] #[]) := by rw [g1]; go_simp
  clear g1 g2
  go_wp2_with fail
  refine (full_any _ (by omega) (by omega) _).mono ?_
  rintro e w2 ⟨rfl, rfl⟩
  go_wp2_with fail
  go_ret
  exact ⟨rfl, ((Below.refl _ _).alloc (Nat.le_refl _) _).trans (hb1.mono (by simp))⟩
theorem checked1_full_yes (b c : Nat) (x y : Int) (w : World) (hbs : b < w.heap.size) (hcs : c < w.heap.size) (c0 : w.cell? ⟨b, 0, none⟩ = some (.func (.func 116) #[] #[])) (k0 : w.cell? ⟨c, 0, none⟩ = some (.func (.func 161) #[] #[.pointer (some ⟨b, 0, none⟩)])) (hin : InB (x, y)) :
    Calls Try.prog 160 #[.agg #[.int .i64 x, .int .i64 y], .pointer (some ⟨c, 0, none⟩)] w fun e w' => e = .returned (.tuple #[.int .i64 (fullF (Ang.fineF x y)), .int .i64 0]) ∧ Below w.heap.size w w' := by
  obtain ⟨x0, x1, y0, y1⟩ := id hin
  have HIN := Lib.hid hin
  clear hin
  go_enter Try.func160, Try.ntmps160
  go_wp2_with fail
  refine (inside_yes (w.heap.size + 1) 1 (fun _ => (x, y)) _ (by omega) (by simp) (in1 (by simp [go_sem]) (by simp [go_sem])) (fun _ _ => HIN.out)).mono ?_
  rintro e w1 ⟨rfl, hb1⟩
  have hB := (((Below.refl w.heap.size w).alloc (Nat.le_refl _) (.cells #[.int .i64 x, .int .i64 y] 23)).alloc (by simp) (.cells #[.int .i64 x, .int .i64 y] 23)).trans (hb1.mono (by simp; omega))
  have d0 := (hB.cell (p := ⟨b, 0, none⟩) hbs).trans c0
  have d1 := (hB.cell (p := ⟨c, 0, none⟩) hcs).trans k0
  have z1 : b < w1.heap.size := Nat.lt_of_lt_of_le hbs hB.size
  obtain ⟨g5, g6, z3⟩ := step2 (b := w.heap.size) hb1 (by simp; omega)
  have d2 : w1.cell? ⟨w.heap.size, 0, none⟩ = some (.int .i64 x) := by rw [g5]; simp [go_sem]
  have d3 : w1.cell? ⟨w.heap.size, 1, none⟩ = some (.int .i64 y) := by rw [g5]; simp [go_sem]
  clear g5 g6
  have HBB := Lib.hid hB
  clear hB
  go_wp2_with fail
  refine (measured1_full b x y _ z1 d0 (by omega) (by omega)).mono ?_
  rintro e w2 ⟨rfl, hb2⟩
  go_wp2_with fail
  go_ret2
  exact ⟨rfl, HBB.out.trans (hb2.mono (by omega))⟩
theorem measured1_half (b : Nat) (x y : Int) (w : World) (hbs : b < w.heap.size) (c0 : w.cell? ⟨b, 0, none⟩ = some (.func (.func 118) #[] #[])) (hx : -70368744177664 ≤ x ∧ x ≤ 70368744177664) (hy : -70368744177664 ≤ y ∧ y ≤ 70368744177664) :
    Calls Try.prog 161 #[.agg #[.int .i64 x, .int .i64 y], .pointer (some ⟨b, 0, none⟩)] w fun e w' => e = .returned (.int .i64 (halfF (Ang.fineF x y))) ∧ Below w.heap.size w w' := by
  have hf := Ang.fineF_bd x y
  unfold halfF
  have hne : b ≠ w.heap.size := by omega
  go_enter Try.func161, Try.ntmps161
  go_wp2_with fail
  refine (Fine_yes x y hx hy _).mono ?_
  rintro e w1 ⟨rfl, hb1⟩
  obtain ⟨g1, g2, z1⟩ := step2 (b := b) hb1 (by simp; omega)
  have d0 : w1.cell? ⟨b, 0, none⟩ = some (.func (.func 118) #[] #[]) := by rw [g1]; go_simp
  clear g1 g2
  go_wp2_with fail
  refine (half_any _ (by omega) (by omega) _).mono ?_
  rintro e w2 ⟨rfl, rfl⟩
  go_wp2_with fail
  go_ret
  exact ⟨rfl, ((Below.refl _ _).alloc (Nat.le_refl _) _).trans (hb1.mono (by simp))⟩
theorem checked1_half_yes (b c : Nat) (x y : Int) (w : World) (hbs : b < w.heap.size) (hcs : c < w.heap.size) (c0 : w.cell? ⟨b, 0, none⟩ = some (.func (.func 118) #[] #[])) (k0 : w.cell? ⟨c, 0, none⟩ = some (.func (.func 161) #[] #[.pointer (some ⟨b, 0, none⟩)])) (hin : InB (x, y)) :
    Calls Try.prog 160 #[.agg #[.int .i64 x, .int .i64 y], .pointer (some ⟨c, 0, none⟩)] w fun e w' => e = .returned (.tuple #[.int .i64 (halfF (Ang.fineF x y)), .int .i64 0]) ∧ Below w.heap.size w w' := by
  obtain ⟨x0, x1, y0, y1⟩ := id hin
  have HIN := Lib.hid hin
  clear hin
  go_enter Try.func160, Try.ntmps160
  go_wp2_with fail
  refine (inside_yes (w.heap.size + 1) 1 (fun _ => (x, y)) _ (by omega) (by simp) (in1 (by simp [go_sem]) (by simp [go_sem])) (fun _ _ => HIN.out)).mono ?_
  rintro e w1 ⟨rfl, hb1⟩
  have hB := (((Below.refl w.heap.size w).alloc (Nat.le_refl _) (.cells #[.int .i64 x, .int .i64 y] 23)).alloc (by simp) (.cells #[.int .i64 x, .int .i64 y] 23)).trans (hb1.mono (by simp; omega))
  have d0 := (hB.cell (p := ⟨b, 0, none⟩) hbs).trans c0
  have d1 := (hB.cell (p := ⟨c, 0, none⟩) hcs).trans k0
  have z1 : b < w1.heap.size := Nat.lt_of_lt_of_le hbs hB.size
  obtain ⟨g5, g6, z3⟩ := step2 (b := w.heap.size) hb1 (by simp; omega)
  have d2 : w1.cell? ⟨w.heap.size, 0, none⟩ = some (.int .i64 x) := by rw [g5]; simp [go_sem]
  have d3 : w1.cell? ⟨w.heap.size, 1, none⟩ = some (.int .i64 y) := by rw [g5]; simp [go_sem]
  clear g5 g6
  have HBB := Lib.hid hB
  clear hB
  go_wp2_with fail
  refine (measured1_half b x y _ z1 d0 (by omega) (by omega)).mono ?_
  rintro e w2 ⟨rfl, hb2⟩
  go_wp2_with fail
  go_ret2
  exact ⟨rfl, HBB.out.trans (hb2.mono (by omega))⟩
theorem checked1_full_no (c : Nat) (x y : Int) (w : World) (hin : ¬ InB (x, y)) :
    Calls Try.prog 160 #[.agg #[.int .i64 x, .int .i64 y], .pointer (some ⟨c, 0, none⟩)] w fun e w' => e = .returned (.tuple #[.int .i64 0, .int .i64 2]) ∧ Below w.heap.size w w' := by
  have HIN := Lib.hid hin
  clear hin
  go_enter Try.func160, Try.ntmps160
  go_wp2_with fail
  refine (inside_no (w.heap.size + 1) 1 (fun _ => (x, y)) _ (by omega) (by simp) (in1 (by simp [go_sem]) (by simp [go_sem])) (fun h => HIN.out (h 0 (by omega)))).mono ?_
  rintro e w1 ⟨rfl, hb1⟩
  have hB := (((Below.refl w.heap.size w).alloc (Nat.le_refl _) (.cells #[.int .i64 x, .int .i64 y] 23)).alloc (by simp) (.cells #[.int .i64 x, .int .i64 y] 23)).trans (hb1.mono (by simp; omega))
  have HBB := Lib.hid hB
  clear hB
  go_wp2_with fail
  go_ret2
  exact ⟨rfl, HBB.out⟩
theorem Full_yes (x y : Int) (w : World) (hin : InB (x, y)) :
    Calls Try.prog 26 #[.agg #[.int .i64 x, .int .i64 y]] w fun e w' => e = .returned (.tuple #[.int .i64 (fullF (Ang.fineF x y)), .int .i64 0]) ∧ Below w.heap.size w w' := by
  have HIN := Lib.hid hin
  clear hin
  go_enter Try.func26, Try.ntmps26
  go_wp2_with fail
  go_region_held3 (fun w' => w'.cell? ⟨w.heap.size, 0, none⟩ = some (.int .i64 x) ∧ w'.cell? ⟨w.heap.size, 1, none⟩ = some (.int .i64 y)) (first | exact ⟨by assumption, by assumption⟩ | (simp [go_sem, *]; done))
    (first
      | (go_at_call 115; refine (measured_any _ _).mono ?_; rintro e w1 ⟨rfl, rfl⟩)
      | (go_at_call 114; refine (checked_any _ _ _).mono ?_; rintro e w1 ⟨rfl, rfl⟩)
      | (go_at_call 160; refine (checked1_full_yes (w.heap.size + 1) (w.heap.size + 1 + 1) x y _ (by simp) (by simp) (by simp [go_sem]) (by simp [go_sem]) HIN.out).mono ?_; rintro e w2 ⟨rfl, hb2⟩; have G0 := (hb2.cell (p := ⟨w.heap.size, 0, none⟩) (by simp; omega)).trans (show _ = some (.int .i64 x) by simp [go_sem]); have G1 := (hb2.cell (p := ⟨w.heap.size, 1, none⟩) (by simp; omega)).trans (show _ = some (.int .i64 y) by simp [go_sem]); have HC := Lib.hid (((((Below.refl w.heap.size w).alloc (Nat.le_refl _) (.cells #[.int .i64 x, .int .i64 y] 23)).alloc (by simp) (.cells #[.func (.func 116) #[] #[]] 92)).alloc (by simp; omega) (.cells #[.func (.func 161) #[] #[.pointer (some ⟨w.heap.size + 1, 0, none⟩)]] 89)).drew.trans (hb2.mono (by simp; omega))); clear hb2))
  go_wp2_with fail
  go_ret2
  exact ⟨rfl, HC.out⟩
theorem Full_no (x y : Int) (w : World) (hin : ¬ InB (x, y)) :
    Calls Try.prog 26 #[.agg #[.int .i64 x, .int .i64 y]] w fun e w' => e = .returned (.tuple #[.int .i64 0, .int .i64 2]) ∧ Below w.heap.size w w' := by
  have HIN := Lib.hid hin
  clear hin
  go_enter Try.func26, Try.ntmps26
  go_wp2_with fail
  go_region_held3 (fun w' => w'.cell? ⟨w.heap.size, 0, none⟩ = some (.int .i64 x) ∧ w'.cell? ⟨w.heap.size, 1, none⟩ = some (.int .i64 y)) (first | exact ⟨by assumption, by assumption⟩ | (simp [go_sem, *]; done))
    (first
      | (go_at_call 115; refine (measured_any _ _).mono ?_; rintro e w1 ⟨rfl, rfl⟩)
      | (go_at_call 114; refine (checked_any _ _ _).mono ?_; rintro e w1 ⟨rfl, rfl⟩)
      | (go_at_call 160; refine (checked1_full_no _ x y _ HIN.out).mono ?_; rintro e w2 ⟨rfl, hb2⟩; have G0 := (hb2.cell (p := ⟨w.heap.size, 0, none⟩) (by simp; omega)).trans (show _ = some (.int .i64 x) by simp [go_sem]); have G1 := (hb2.cell (p := ⟨w.heap.size, 1, none⟩) (by simp; omega)).trans (show _ = some (.int .i64 y) by simp [go_sem]); have HC := Lib.hid (((((Below.refl w.heap.size w).alloc (Nat.le_refl _) (.cells #[.int .i64 x, .int .i64 y] 23)).alloc (by simp) (.cells #[.func (.func 116) #[] #[]] 92)).alloc (by simp; omega) (.cells #[.func (.func 161) #[] #[.pointer (some ⟨w.heap.size + 1, 0, none⟩)]] 89)).drew.trans (hb2.mono (by simp; omega))); clear hb2))
  go_wp2_with fail
  go_ret2
  exact ⟨rfl, HC.out⟩
theorem Half_yes (x y : Int) (w : World) (hin : InB (x, y)) :
    Calls Try.prog 28 #[.agg #[.int .i64 x, .int .i64 y]] w fun e w' => e = .returned (.tuple #[.int .i64 (halfF (Ang.fineF x y)), .int .i64 0]) ∧ Below w.heap.size w w' := by
  have HIN := Lib.hid hin
  clear hin
  go_enter Try.func28, Try.ntmps28
  go_wp2_with fail
  go_region_held3 (fun w' => w'.cell? ⟨w.heap.size, 0, none⟩ = some (.int .i64 x) ∧ w'.cell? ⟨w.heap.size, 1, none⟩ = some (.int .i64 y)) (first | exact ⟨by assumption, by assumption⟩ | (simp [go_sem, *]; done))
    (first
      | (go_at_call 115; refine (measured_any _ _).mono ?_; rintro e w1 ⟨rfl, rfl⟩)
      | (go_at_call 114; refine (checked_any _ _ _).mono ?_; rintro e w1 ⟨rfl, rfl⟩)
      | (go_at_call 160; refine (checked1_half_yes (w.heap.size + 1) (w.heap.size + 1 + 1) x y _ (by simp) (by simp) (by simp [go_sem]) (by simp [go_sem]) HIN.out).mono ?_; rintro e w2 ⟨rfl, hb2⟩; have G0 := (hb2.cell (p := ⟨w.heap.size, 0, none⟩) (by simp; omega)).trans (show _ = some (.int .i64 x) by simp [go_sem]); have G1 := (hb2.cell (p := ⟨w.heap.size, 1, none⟩) (by simp; omega)).trans (show _ = some (.int .i64 y) by simp [go_sem]); have HC := Lib.hid (((((Below.refl w.heap.size w).alloc (Nat.le_refl _) (.cells #[.int .i64 x, .int .i64 y] 23)).alloc (by simp) (.cells #[.func (.func 118) #[] #[]] 92)).alloc (by simp; omega) (.cells #[.func (.func 161) #[] #[.pointer (some ⟨w.heap.size + 1, 0, none⟩)]] 89)).drew.trans (hb2.mono (by simp; omega))); clear hb2))
  go_wp2_with fail
  go_ret2
  exact ⟨rfl, HC.out⟩
theorem Half_no (x y : Int) (w : World) (hin : ¬ InB (x, y)) :
    Calls Try.prog 28 #[.agg #[.int .i64 x, .int .i64 y]] w fun e w' => e = .returned (.tuple #[.int .i64 0, .int .i64 2]) ∧ Below w.heap.size w w' := by
  have HIN := Lib.hid hin
  clear hin
  go_enter Try.func28, Try.ntmps28
  go_wp2_with fail
  go_region_held3 (fun w' => w'.cell? ⟨w.heap.size, 0, none⟩ = some (.int .i64 x) ∧ w'.cell? ⟨w.heap.size, 1, none⟩ = some (.int .i64 y)) (first | exact ⟨by assumption, by assumption⟩ | (simp [go_sem, *]; done))
    (first
      | (go_at_call 115; refine (measured_any _ _).mono ?_; rintro e w1 ⟨rfl, rfl⟩)
      | (go_at_call 114; refine (checked_any _ _ _).mono ?_; rintro e w1 ⟨rfl, rfl⟩)
      | (go_at_call 160; refine (checked1_full_no _ x y _ HIN.out).mono ?_; rintro e w2 ⟨rfl, hb2⟩; have G0 := (hb2.cell (p := ⟨w.heap.size, 0, none⟩) (by simp; omega)).trans (show _ = some (.int .i64 x) by simp [go_sem]); have G1 := (hb2.cell (p := ⟨w.heap.size, 1, none⟩) (by simp; omega)).trans (show _ = some (.int .i64 y) by simp [go_sem]); have HC := Lib.hid (((((Below.refl w.heap.size w).alloc (Nat.le_refl _) (.cells #[.int .i64 x, .int .i64 y] 23)).alloc (by simp) (.cells #[.func (.func 118) #[] #[]] 92)).alloc (by simp; omega) (.cells #[.func (.func 161) #[] #[.pointer (some ⟨w.heap.size + 1, 0, none⟩)]] 89)).drew.trans (hb2.mono (by simp; omega))); clear hb2))
  go_wp2_with fail
  go_ret2
  exact ⟨rfl, HC.out⟩
end Go.Proofs.Ytgehbebjgmeccaa
