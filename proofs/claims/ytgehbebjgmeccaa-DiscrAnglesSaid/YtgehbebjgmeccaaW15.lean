/- Contracts of functions of the program and of its reference, out of walks. Their conditions stand ahead of each. -/
import Derived.Test.YtgehbebjgmeccaaW14
set_option linter.unusedVariables false
set_option linter.unusedSimpArgs false
namespace Go.Proofs.Ytgehbebjgmeccaa
open Go.RowKit
theorem checked1_lock_yes (c : Nat) (x y : Int) (w : World) (hcs : c < w.heap.size) (k0 : w.cell? ⟨c, 0, none⟩ = some (.func (.func 119) #[] #[])) (hin : InB (x, y)) :
    Calls Try.prog 160 #[.agg #[.int .i64 x, .int .i64 y], .pointer (some ⟨c, 0, none⟩)] w fun e w' => e = .returned (.tuple #[.int .i64 (shareF (x * x - y * y) (x * x + y * y)), .int .i64 0]) ∧ Below w.heap.size w w' := by
  have HIN := Lib.hid hin
  clear hin
  go_enter Try.func160, Try.ntmps160
  go_wp2_with fail
  refine (inside_yes (w.heap.size + 1) 1 (fun _ => (x, y)) _ (by omega) (by simp) (in1 (by simp [go_sem]) (by simp [go_sem])) (fun _ _ => HIN.out)).mono ?_
  rintro e w1 ⟨rfl, hb1⟩
  have hB := (((Below.refl w.heap.size w).alloc (Nat.le_refl _) (.cells #[.int .i64 x, .int .i64 y] 23)).alloc (by simp) (.cells #[.int .i64 x, .int .i64 y] 23)).trans (hb1.mono (by simp; omega))
  have d1 := (hB.cell (p := ⟨c, 0, none⟩) hcs).trans k0
  have z1 := hB.size
  have d2 := (hb1.cell (p := ⟨w.heap.size, 0, none⟩) (by simp; omega)).trans (show _ = some (.int .i64 x) by simp [go_sem])
  have d3 := (hb1.cell (p := ⟨w.heap.size, 1, none⟩) (by simp; omega)).trans (show _ = some (.int .i64 y) by simp [go_sem])
  have HBB := Lib.hid hB
  clear hB hb1
  go_wp2_with fail
  refine (Lock1_any x y _ HIN.out).mono ?_
  rintro e w2 ⟨rfl, hb2⟩
  go_wp2_with fail
  go_ret2
  exact ⟨rfl, HBB.out.trans (hb2.mono (by omega))⟩
theorem Lock_yes (x y : Int) (w : World) (hin : InB (x, y)) :
    Calls Try.prog 30 #[.agg #[.int .i64 x, .int .i64 y]] w fun e w' => e = .returned (.tuple #[.int .i64 (shareF (x * x - y * y) (x * x + y * y)), .int .i64 0]) ∧ Below w.heap.size w w' := by
  have HIN := Lib.hid hin
  clear hin
  go_enter Try.func30, Try.ntmps30
  go_wp2_with fail
  go_region_held3 (fun w' => w'.cell? ⟨w.heap.size, 0, none⟩ = some (.int .i64 x) ∧ w'.cell? ⟨w.heap.size, 1, none⟩ = some (.int .i64 y)) (first | exact ⟨by assumption, by assumption⟩ | (simp [go_sem, *]; done))
    (first
      | (go_at_call 114; refine (checked_any _ _ _).mono ?_; rintro e w1 ⟨rfl, rfl⟩)
      | (go_at_call 160; refine (checked1_lock_yes (w.heap.size + 1) x y _ (by simp) (by simp [go_sem]) HIN.out).mono ?_; rintro e w2 ⟨rfl, hb2⟩; have G0 := (hb2.cell (p := ⟨w.heap.size, 0, none⟩) (by simp; omega)).trans (show _ = some (.int .i64 x) by simp [go_sem]); have G1 := (hb2.cell (p := ⟨w.heap.size, 1, none⟩) (by simp; omega)).trans (show _ = some (.int .i64 y) by simp [go_sem]); have HC := Lib.hid ((((Below.refl w.heap.size w).alloc (Nat.le_refl _) (.cells #[.int .i64 x, .int .i64 y] 23)).alloc (by simp) (.cells #[.func (.func 119) #[] #[]] 89)).drew.trans (hb2.mono (by simp; omega))); clear hb2))
  go_wp2_with fail
  go_ret2
  exact ⟨rfl, HC.out⟩
theorem Lock_no (x y : Int) (w : World) (hin : ¬ InB (x, y)) :
    Calls Try.prog 30 #[.agg #[.int .i64 x, .int .i64 y]] w fun e w' => e = .returned (.tuple #[.int .i64 0, .int .i64 2]) ∧ Below w.heap.size w w' := by
  have HIN := Lib.hid hin
  clear hin
  go_enter Try.func30, Try.ntmps30
  go_wp2_with fail
  go_region_held3 (fun w' => w'.cell? ⟨w.heap.size, 0, none⟩ = some (.int .i64 x) ∧ w'.cell? ⟨w.heap.size, 1, none⟩ = some (.int .i64 y)) (first | exact ⟨by assumption, by assumption⟩ | (simp [go_sem, *]; done))
    (first
      | (go_at_call 114; refine (checked_any _ _ _).mono ?_; rintro e w1 ⟨rfl, rfl⟩)
      | (go_at_call 160; refine (checked1_full_no _ x y _ HIN.out).mono ?_; rintro e w2 ⟨rfl, hb2⟩; have G0 := (hb2.cell (p := ⟨w.heap.size, 0, none⟩) (by simp; omega)).trans (show _ = some (.int .i64 x) by simp [go_sem]); have G1 := (hb2.cell (p := ⟨w.heap.size, 1, none⟩) (by simp; omega)).trans (show _ = some (.int .i64 y) by simp [go_sem]); have HC := Lib.hid ((((Below.refl w.heap.size w).alloc (Nat.le_refl _) (.cells #[.int .i64 x, .int .i64 y] 23)).alloc (by simp) (.cells #[.func (.func 119) #[] #[]] 89)).drew.trans (hb2.mono (by simp; omega))); clear hb2))
  go_wp2_with fail
  go_ret2
  exact ⟨rfl, HC.out⟩
theorem in2 {b : Nat} {x y u v : Int} {w : World} (c0 : w.cell? ⟨b, 0, none⟩ = some (.int .i64 x)) (c1 : w.cell? ⟨b, 1, none⟩ = some (.int .i64 y)) (c2 : w.cell? ⟨b, 2, none⟩ = some (.int .i64 u)) (c3 : w.cell? ⟨b, 3, none⟩ = some (.int .i64 v)) : ∀ i, i < 2 → w.cell? ⟨b, i * 2, none⟩ = some (.int .i64 ((fun i => if i = 0 then (x, y) else (u, v)) i : Int × Int).1) ∧ w.cell? ⟨b, i * 2 + 1, none⟩ = some (.int .i64 ((fun i => if i = 0 then (x, y) else (u, v)) i : Int × Int).2) := by
  intro i h
  match i, h with
  | 0, _ => exact ⟨c0, c1⟩
  | 1, _ => exact ⟨c2, c3⟩
theorem cross_bd (x y : Int) (h : -1048576 ≤ x ∧ x ≤ 1048576) (h' : -1048576 ≤ y ∧ y ≤ 1048576) : -1099511627776 ≤ x * y ∧ x * y ≤ 1099511627776 := mulbd x y 1048576 1048576 h.1 h.2 h'.1 h'.2
theorem Turn_yes (a b c d : Int) (w : World) (h1 : InB (a, b)) (h2 : InB (c, d)) :
    Calls Try.prog 33 #[.agg #[.int .i64 a, .int .i64 b], .agg #[.int .i64 c, .int .i64 d]] w fun e w' => e = .returned (.tuple #[.agg #[.int .i64 (a * c + b * d), .int .i64 (a * d - b * c)], .int .i64 0]) ∧ Below w.heap.size w w' := by
  have H1 := Lib.hid h1
  have H2 := Lib.hid h2
  obtain ⟨a0, a1, b0, b1⟩ := h1
  obtain ⟨c0, c1, d0, d1⟩ := h2
  have ⟨p0, p1⟩ := cross_bd a c ⟨a0, a1⟩ ⟨c0, c1⟩
  have ⟨p2, p3⟩ := cross_bd b d ⟨b0, b1⟩ ⟨d0, d1⟩
  have ⟨p4, p5⟩ := cross_bd a d ⟨a0, a1⟩ ⟨d0, d1⟩
  have ⟨p6, p7⟩ := cross_bd b c ⟨b0, b1⟩ ⟨c0, c1⟩
  go_enter Try.func33, Try.ntmps33
  go_wp2_with fail
  refine (inside_yes (w.heap.size + 1 + 1 + 1) 2 (fun i => if i = 0 then (a, b) else (c, d)) _ (by omega) (by simp) (in2 (by simp [go_sem]) (by simp [go_sem]) (by simp [go_sem]) (by simp [go_sem])) (fun i _ => by match i with | 0 => exact H1.out | i + 1 => exact H2.out)).mono ?_
  rintro e w1 ⟨rfl, hb1⟩
  obtain ⟨hc, hf⟩ := bcell hb1
  have z := hb1.size
  simp only [World.size_alloc] at z
  have z0 : w.heap.size < w1.heap.size := by omega
  have z1 : w.heap.size + 1 < w1.heap.size := by omega
  have z2 : w.heap.size + 1 + 1 < w1.heap.size := by omega
  go_wp2_with fail
  refine bodyPost_ret (v := .tuple #[.agg #[.int .i64 (a * c + b * d), .int .i64 (a * d - b * c)], .int .i64 0]) (by simp [results, Try.results33, go_sem, hc, hf]) rfl ⟨rfl, ?_⟩
  exact (((((((Below.refl _ _).alloc (Nat.le_refl _) _).alloc (by simp) _).alloc (by simp; omega) _).alloc (by simp; omega) _).trans (hb1.mono (by simp; omega))).setCell (by simp; omega) _).setCell (by simp; omega) _
theorem Turn_no (a b c d : Int) (w : World) (h : ¬ (InB (a, b) ∧ InB (c, d))) :
    Calls Try.prog 33 #[.agg #[.int .i64 a, .int .i64 b], .agg #[.int .i64 c, .int .i64 d]] w fun e w' => e = .returned (.tuple #[.agg #[.int .i64 0, .int .i64 0], .int .i64 2]) ∧ Below w.heap.size w w' := by
  have H := Lib.hid h
  clear h
  go_enter Try.func33, Try.ntmps33
  go_wp2_with fail
  refine (inside_no (w.heap.size + 1 + 1 + 1) 2 (fun i => if i = 0 then (a, b) else (c, d)) _ (by omega) (by simp) (in2 (by simp [go_sem]) (by simp [go_sem]) (by simp [go_sem]) (by simp [go_sem])) (fun k => H.out ⟨k 0 (by omega), k 1 (by omega)⟩)).mono ?_
  rintro e w1 ⟨rfl, hb1⟩
  obtain ⟨hc, hf⟩ := bcell hb1
  have z := hb1.size
  simp only [World.size_alloc] at z
  have z2 : w.heap.size + 1 + 1 < w1.heap.size := by omega
  go_wp2_with fail
  refine bodyPost_ret (v := .tuple #[.agg #[.int .i64 0, .int .i64 0], .int .i64 2]) (by simp [results, Try.results33, go_sem, hc, hf]) rfl ⟨rfl, ?_⟩
  exact (((((((Below.refl _ _).alloc (Nat.le_refl _) _).alloc (by simp) _).alloc (by simp; omega) _).alloc (by simp; omega) _).trans (hb1.mono (by simp; omega))).setCell (by simp; omega) _).setCell (by simp; omega) _
end Go.Proofs.Ytgehbebjgmeccaa
