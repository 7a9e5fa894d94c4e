/- Contracts of functions of the program and of its reference, out of walks. Their conditions stand ahead of each. -/
import Derived.Test.YtgehbebjgmeccaaW3
set_option linter.unusedVariables false
set_option linter.unusedSimpArgs false
namespace Go.Proofs.Ytgehbebjgmeccaa
open Go.RowKit
theorem step2 {W w1 : World} {b : Nat} (hb : Below W.heap.size W w1) (h : b < W.heap.size) : (∀ o, w1.cell? ⟨b, o, none⟩ = W.cell? ⟨b, o, none⟩) ∧ (∀ o, w1.frozen? ⟨b, o, none⟩ = W.frozen? ⟨b, o, none⟩) ∧ b < w1.heap.size :=
  ⟨fun o => (bcell hb).1 b o h, fun o => (bcell hb).2 b o h, Nat.lt_of_lt_of_le h hb.size⟩
theorem ti_bd (k : Int) : -127 ≤ Ang.ti k ∧ Ang.ti k ≤ 127 ∧ -127 ≤ Ang.tq k ∧ Ang.tq k ≤ 127 := by
  have h := Ang.cases64 (P := fun m => -127 ≤ Ang.ti m ∧ Ang.ti m ≤ 127 ∧ -127 ≤ Ang.tq m ∧ Ang.tq m ≤ 127) (k % 64) (by omega) (by omega) (by decide)
  have e : Ang.ti (k % 64) = Ang.ti k ∧ Ang.tq (k % 64) = Ang.tq k := by
    unfold Ang.ti Ang.tq; rw [show k % 64 % 64 = k % 64 from by omega]; exact ⟨rfl, rfl⟩
  rw [e.1, e.2] at h
  exact h
theorem mi_bd (k : Int) : -254 ≤ Ang.mi k ∧ Ang.mi k ≤ 254 ∧ -254 ≤ Ang.mq k ∧ Ang.mq k ≤ 254 := by
  have a := ti_bd k
  have b := ti_bd (k + 1)
  unfold Ang.mi Ang.mq
  omega
theorem boundary_any (k : Int) (h0 : -1000 ≤ k) (h1 : k ≤ 1000) (w : World) :
    Calls Try.prog 129 #[.int .i64 k] w fun e w' => e = .returned (.agg #[.int .i64 (Ang.mi k), .int .i64 (Ang.mq k)]) ∧ Below w.heap.size w w' := by
  have b1 := ti_bd k
  have b2 := ti_bd (k + 1)
  go_enter Try.func129, Try.ntmps129
  go_wp2_with fail
  refine (entry_any _ _).mono ?_
  rintro e w1 ⟨rfl, hb1⟩
  obtain ⟨c1, f1, z1⟩ := step2 (b := w.heap.size) hb1 (by simp)
  go_wp2_with fail
  refine (entry_any _ _).mono ?_
  rintro e w2 ⟨rfl, hb2⟩
  obtain ⟨c2, f2, z2⟩ := step2 hb2 z1
  go_wp2_with fail
  refine (plus_any _ _ _ _ (by omega) (by omega) (by omega) (by omega) _).mono ?_
  rintro e w3 ⟨rfl, hb3⟩
  obtain ⟨c3, f3, z3⟩ := step2 hb3 z2
  go_wp2_with fail
  simp [bodyPost, results, Try.results129, go_sem, c1, c2, c3]
  refine ⟨⟨rfl, rfl⟩, ?_⟩
  exact ((((((Below.refl _ _).alloc (Nat.le_refl _) _).trans (hb1.mono (by simp))).trans (hb2.mono (by omega))).trans (hb3.mono (by omega))).setCell (by simp) _).setCell (by simp) _
def pB (k x y : Int) : Bool := decide (Ang.d k x y < 0)
theorem mulbd (a x A X : Int) (h0 : -A ≤ a) (h1 : a ≤ A) (g0 : -X ≤ x) (g1 : x ≤ X) : -(A * X) ≤ a * x ∧ a * x ≤ A * X := by
  have p1 := Int.mul_nonneg (show 0 ≤ A - a by omega) (show 0 ≤ X + x by omega)
  have p2 := Int.mul_nonneg (show 0 ≤ A + a by omega) (show 0 ≤ X - x by omega)
  have p3 := Int.mul_nonneg (show 0 ≤ A - a by omega) (show 0 ≤ X - x by omega)
  have p4 := Int.mul_nonneg (show 0 ≤ A + a by omega) (show 0 ≤ X + x by omega)
  have e1 : (A - a) * (X + x) = A * X + A * x - a * X - a * x := by grind
  have e2 : (A + a) * (X - x) = A * X - A * x + a * X - a * x := by grind
  have e3 : (A - a) * (X - x) = A * X - A * x - a * X + a * x := by grind
  have e4 : (A + a) * (X + x) = A * X + A * x + a * X + a * x := by grind
  omega
theorem closure_any (k x y : Int) (b : Nat) (h0 : -1000 ≤ k) (h1 : k ≤ 1000) (hx : -70368744177664 ≤ x ∧ x ≤ 70368744177664) (hy : -70368744177664 ≤ y ∧ y ≤ 70368744177664) (w : World)
    (c0 : w.cell? ⟨b, 0, none⟩ = some (.int .i64 x)) (c1 : w.cell? ⟨b, 1, none⟩ = some (.int .i64 y)) (hbs : b < w.heap.size) :
    Calls Try.prog 173 #[.int .i64 k, .pointer (some ⟨b, 0, none⟩)] w fun e w' => e = .returned (.bool (pB k x y)) ∧ Below w.heap.size w w' := by
  have m := mi_bd k
  have p1 := mulbd y (Ang.mi k) 70368744177664 254 hy.1 hy.2 m.1 m.2.1
  have p2 := mulbd x (Ang.mq k) 70368744177664 254 hx.1 hx.2 m.2.2.1 m.2.2.2
  have hfin : decide (y * Ang.mi k < x * Ang.mq k) = pB k x y := by
    unfold pB Ang.d; rw [Int.mul_comm x, Int.mul_comm y, decide_eq_decide]; omega
  have HF := Lib.hid hfin
  clear hfin m
  go_enter Try.func173, Try.ntmps173
  go_wp2_with fail
  go_region_held3 (fun w' => w'.cell? ⟨b, 0, none⟩ = some (.int .i64 x) ∧ w'.cell? ⟨b, 1, none⟩ = some (.int .i64 y)) (first | exact ⟨by assumption, by assumption⟩ | (simp [go_sem, *]; done))
    (first
      | (go_at_call 129; refine (boundary_any _ h0 h1 _).mono ?_; rintro e w1 ⟨rfl, hb1⟩; obtain ⟨g1, g2, z1⟩ := step2 (b := b) hb1 hbs; have G0 := (g1 0).trans c0; have G1 := (g1 1).trans c1; have HB1 := Lib.hid hb1; clear hb1 g1 g2)
      | (go_at_call 130; refine (cross_any _ _ _ _ (by omega) (by omega) (by omega) _).mono ?_; rintro e w2 ⟨rfl, hb2⟩; obtain ⟨g1, g2, z2⟩ := step2 (b := b) hb2 z1; have G2 := (g1 0).trans G0; have G3 := (g1 1).trans G1; have HB2 := Lib.hid hb2; clear hb2 g1 g2))
  go_wp2
  go_ret
  exact ⟨by rw [← HF.out]; rfl, ((Below.refl _ _).drew.trans HB1.out).trans (HB2.out.mono (Nat.le_trans (Nat.le_refl _) HB1.out.size))⟩
theorem small_yes (x y : Int) (hx : -70368744177664 ≤ x ∧ x ≤ 70368744177664) (hy : -70368744177664 ≤ y ∧ y ≤ 70368744177664) (w : World) :
    Calls Try.prog 137 #[.agg #[.int .i64 x, .int .i64 y]] w fun e w' => e = .returned (.bool true) ∧ Below w.heap.size w w' := by
  obtain ⟨x0, x1⟩ := hx
  obtain ⟨y0, y1⟩ := hy
  go_enter Try.func137, Try.ntmps137
  go_wp2_with fail
  all_goals go_ret
  all_goals exact ⟨rfl, (Below.refl _ _).alloc (Nat.le_refl _) _⟩
theorem small_no (x y : Int) (h : ¬ (-70368744177664 ≤ x ∧ x ≤ 70368744177664 ∧ -70368744177664 ≤ y ∧ y ≤ 70368744177664)) (w : World) :
    Calls Try.prog 137 #[.agg #[.int .i64 x, .int .i64 y]] w fun e w' => e = .returned (.bool false) ∧ Below w.heap.size w w' := by
  have H := Lib.hid h
  clear h
  go_enter Try.func137, Try.ntmps137
  go_wp2_with fail
  all_goals go_ret
  all_goals refine ⟨?_, (Below.refl _ _).alloc (Nat.le_refl _) _⟩
  all_goals have := H.out
  all_goals first | rfl | (simp; omega)

end Go.Proofs.Ytgehbebjgmeccaa
