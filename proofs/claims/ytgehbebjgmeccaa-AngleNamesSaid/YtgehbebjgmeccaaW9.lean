/- Contracts of functions of the program and of its reference, out of walks. Their conditions stand ahead of each. -/
import Derived.Test.YtgehbebjgmeccaaW8
set_option linter.unusedVariables false
set_option linter.unusedSimpArgs false
namespace Go.Proofs.Ytgehbebjgmeccaa
open Go.RowKit
theorem rwave_any (w : World) :
    Calls Try.prog 174 #[] w fun e w' => e = .returned (.slice (some ⟨w.heap.size, 0, none⟩) 17 17) ∧ w' = w.alloc (.cells wvA 3) := by
  go_enter Try.func174, Try.ntmps174
  go_wp2_with (refine wpList_buildFlat rfl 42 3 17 _ rfl .i64 Ang.wv Try.underlying42 (by as_aux_lemma => kernel_rfl) (by as_aux_lemma => kernel_rfl) rfl (by decide) (by decide) (by as_aux_lemma => kernel_rfl) ?_)
  go_ret
  exact ⟨rfl, rfl⟩
theorem rentry_any (k : Int) (w : World) :
    Calls Try.prog 140 #[.int .i64 k] w fun e w' => e = .returned (.agg #[.int .i64 (Ang.ti k), .int .i64 (Ang.tq k)]) ∧ Below w.heap.size w w' := by
  have e63 : bits .and .i64 k 63 = k % 64 := K.and63 k
  obtain ⟨m, hm⟩ : ∃ m : Int, m = k % 64 := ⟨_, rfl⟩
  have m0 : 0 ≤ m := by omega
  have m1 : m < 64 := by omega
  have et : Ang.ti k = Ang.ti m ∧ Ang.tq k = Ang.tq m := by
    unfold Ang.ti Ang.tq; rw [hm, show k % 64 % 64 = k % 64 from by omega]; exact ⟨rfl, rfl⟩
  rw [et.1, et.2]
  rw [← hm] at e63
  clear et hm
  obtain ⟨a, ha⟩ : ∃ a : Int, m % 16 = a := ⟨_, rfl⟩
  have i0 : 0 ≤ a := by omega
  have i1 : a < 16 := by omega
  have ia : a ≤ 16 := by omega
  have ib : a < 17 := by omega
  have tm : m.tmod 16 = a := by rw [Int.tmod_eq_emod_of_nonneg m0]; exact ha
  go_enter Try.func140, Try.ntmps140
  go_wp2_with fail
  refine (rwave_any _).mono ?_
  rintro e w1 ⟨rfl, rfl⟩
  go_wp2_with fail
  generalize hW : ((w.alloc (.cells #[.int .i64 0, .int .i64 0] 23)).alloc (.cells wvA 3)) = W
  have c1 : W.cell? ⟨w.heap.size + 1, a.toNat, none⟩ = some (.int .i64 (Ang.wv.getD a.toNat 0)) := by
    rw [← hW, ← wv_cell a.toNat (by omega)]; exact cell_of_row _ _ _ _ 3 (0, 0) (by simpa using heap_alloc_last (w.alloc (.cells #[.int .i64 0, .int .i64 0] 23)) (.cells wvA 3))
  have c2 : W.cell? ⟨w.heap.size + 1, (16 - a).toNat, none⟩ = some (.int .i64 (Ang.wv.getD (16 - a).toNat 0)) := by
    rw [← hW, ← wv_cell (16 - a).toNat (by omega)]; exact cell_of_row _ _ _ _ 3 (0, 0) (by simpa using heap_alloc_last (w.alloc (.cells #[.int .i64 0, .int .i64 0] 23)) (.cells wvA 3))
  have r0 : W.cell? ⟨w.heap.size, 0, none⟩ = some (.int .i64 0) := by rw [← hW]; simp [go_sem]
  have r1 : W.cell? ⟨w.heap.size, 1, none⟩ = some (.int .i64 0) := by rw [← hW]; simp [go_sem]
  have f0 : W.frozen? ⟨w.heap.size, 0, none⟩ = false := by rw [← hW]; simp [go_sem]
  have f1 : W.frozen? ⟨w.heap.size, 1, none⟩ = false := by rw [← hW]; simp [go_sem]
  have hs2 : W.heap.size = w.heap.size + 2 := by rw [← hW]; simp
  have hb : Below w.heap.size w W := by rw [← hW]; exact ((Below.refl _ _).alloc (Nat.le_refl _) _).alloc (by simp) _
  clear hW
  have hs : w.heap.size < W.heap.size := by omega
  have hs1 : w.heap.size + 1 < W.heap.size := by omega
  have HS2 := Lib.hid hs2
  clear hs2
  generalize hx : Ang.wv.getD a.toNat 0 = x at *
  generalize hy : Ang.wv.getD (16 - a).toNat 0 = y at *
  have bx : 0 ≤ x ∧ x ≤ 127 := by have := wv_bd a.toNat; rw [hx] at this; exact this
  have bY : 0 ≤ y ∧ y ≤ 127 := by have := wv_bd (16 - a).toNat; rw [hy] at this; exact this
  have HX := Lib.hid hx
  have HY := Lib.hid hy
  clear hx hy
  have w1 : IntKind.i64.wrap (16 - a) = 16 - a := IntWalk.i64_in _ (by omega)
  have i2 : 0 ≤ 16 - a := by omega
  have i3 : 16 - a < 17 := by omega
  go_region_held3 (fun w' => w'.cell? ⟨w.heap.size + 1, a.toNat, none⟩ = some (.int .i64 x) ∧ w'.cell? ⟨w.heap.size + 1, (16 - a).toNat, none⟩ = some (.int .i64 y)) (first | exact ⟨by assumption, by assumption⟩ | (simp [go_sem, *]; done) | go_keep)
    (first | fail)
  go_wp2_with fail
  have hrot := fun (j : Nat) => rotP_bd j x y (by omega) (by omega)
  have HR := Lib.hid hrot
  clear hrot
  have hfin := entry_rot m m0 m1
  rw [ha, HX.out, HY.out] at hfin
  have HF := Lib.hid hfin
  clear hfin
  go_loopw [0] (fun u wr => ∃ j : Nat, u = .int .i64 (m - 16 * j) ∧ 16 * (j : Int) ≤ m ∧ wr.cell? ⟨W.heap.size, 0, none⟩ = some (.int .i64 (rotP j (x, y)).1) ∧ wr.cell? ⟨W.heap.size, 1, none⟩ = some (.int .i64 (rotP j (x, y)).2) ∧ wr.frozen? ⟨W.heap.size, 0, none⟩ = false ∧ wr.frozen? ⟨W.heap.size, 1, none⟩ = false ∧ wr.cell? ⟨w.heap.size, 0, none⟩ = some (.int .i64 0) ∧ wr.cell? ⟨w.heap.size, 1, none⟩ = some (.int .i64 0) ∧ wr.frozen? ⟨w.heap.size, 0, none⟩ = false ∧ wr.frozen? ⟨w.heap.size, 1, none⟩ = false ∧ Below w.heap.size w wr) (fun u _ => (intOf u).toNat)
  case atStart => exact ⟨0, by go_num, by omega, by simp [rotP, go_sem], by simp [rotP, go_sem], by simp [go_sem], by simp [go_sem], by go_simp, by go_simp, by go_simp, by go_simp, (hb.alloc (by omega) _).drew⟩
  case round =>
    obtain ⟨j, rfl, jm, d0, d1, q0, q1, s0, s1, t0, t1, hbr⟩ := hrel
    obtain ⟨⟨b0, b1⟩, b2, b3⟩ := HR.out j
    have hne : W.heap.size ≠ w.heap.size := by omega
    by_cases hlt : 16 ≤ m - 16 * (j : Int)
    · go_wp2_with fail
      refine ⟨⟨j + 1, by go_num, by omega, by rw [rotP_succ]; go_simp, by rw [rotP_succ]; go_simp, by go_simp, by go_simp, by go_simp, by go_simp, by go_simp, by go_simp, ((hbr.setCell (by simp; omega) _).setCell (by simp; omega) _)⟩, by simp [intOf]; omega⟩
    · have hj : (m / 16).toNat = j := by omega
      have hf := HF.out
      rw [hj] at hf
      go_wp2_with fail
      simp [bodyPost, results, Try.results140, go_sem, s0, s1]
      exact ((hbr.setCell (by simp) _).setCell (by simp) _)
theorem rcross_any (a b x y : Int) (h1 : -9000000000000000000 ≤ a * y - b * x ∧ a * y - b * x ≤ 9000000000000000000) (h2 : -9000000000000000000 ≤ a * y ∧ a * y ≤ 9000000000000000000) (h3 : -9000000000000000000 ≤ b * x ∧ b * x ≤ 9000000000000000000) (w : World) :
    Calls Try.prog 179 #[.agg #[.int .i64 a, .int .i64 b], .agg #[.int .i64 x, .int .i64 y]] w fun e w' => e = .returned (.int .i64 (a * y - b * x)) ∧ Below w.heap.size w w' := by
  obtain ⟨h1, h1'⟩ := h1
  obtain ⟨h2, h2'⟩ := h2
  obtain ⟨h3, h3'⟩ := h3
  go_enter Try.func179, Try.ntmps179
  go_wp2
  go_ret
  exact ⟨rfl, ((Below.refl _ _).alloc (Nat.le_refl _) _).alloc (by simp) _⟩
theorem rsmall_yes (x y : Int) (hx : -70368744177664 ≤ x ∧ x ≤ 70368744177664) (hy : -70368744177664 ≤ y ∧ y ≤ 70368744177664) (w : World) :
    Calls Try.prog 139 #[.agg #[.int .i64 x, .int .i64 y]] w fun e w' => e = .returned (.bool true) ∧ Below w.heap.size w w' := by
  obtain ⟨x0, x1⟩ := hx
  obtain ⟨y0, y1⟩ := hy
  go_enter Try.func139, Try.ntmps139
  go_wp2_with fail
  all_goals go_ret
  all_goals exact ⟨rfl, (Below.refl _ _).alloc (Nat.le_refl _) _⟩
theorem rsmall_no (x y : Int) (h : ¬ (-70368744177664 ≤ x ∧ x ≤ 70368744177664 ∧ -70368744177664 ≤ y ∧ y ≤ 70368744177664)) (w : World) :
    Calls Try.prog 139 #[.agg #[.int .i64 x, .int .i64 y]] w fun e w' => e = .returned (.bool false) ∧ Below w.heap.size w w' := by
  have H := Lib.hid h
  clear h
  go_enter Try.func139, Try.ntmps139
  go_wp2_with fail
  all_goals go_ret
  all_goals refine ⟨?_, (Below.refl _ _).alloc (Nat.le_refl _) _⟩
  all_goals have := H.out
  all_goals first | rfl | (simp; omega)
theorem rboundary_any (k : Int) (h0 : -1000 ≤ k) (h1 : k ≤ 1000) (w : World) :
    Calls Try.prog 180 #[.int .i64 k] w fun e w' => e = .returned (.agg #[.int .i64 (Ang.mi k), .int .i64 (Ang.mq k)]) ∧ Below w.heap.size w w' := by
  have b1 := ti_bd k
  have b2 := ti_bd (k + 1)
  go_enter Try.func180, Try.ntmps180
  go_wp2_with fail
  refine (rentry_any _ _).mono ?_
  rintro e w1 ⟨rfl, hb1⟩
  obtain ⟨c1, f1, z1⟩ := step2 (b := w.heap.size) hb1 (by simp)
  go_wp2_with fail
  refine (rentry_any _ _).mono ?_
  rintro e w2 ⟨rfl, hb2⟩
  obtain ⟨c2, f2, z2⟩ := step2 hb2 z1
  go_wp2_with fail
  have z3 : w.heap.size < w2.heap.size + 1 := by omega
  refine bodyPost_ret (v := .agg #[.int .i64 (Ang.mi k), .int .i64 (Ang.mq k)]) (by simp [results, Try.results180, go_sem, c1, c2, z2, z3, Ang.mi, Ang.mq]) rfl ⟨rfl, ?_⟩
  exact (((((((Below.refl _ _).alloc (Nat.le_refl _) _).trans (hb1.mono (by simp))).trans (hb2.mono (by omega))).setCell (by simp) _).setCell (by simp) _).alloc (by simp; omega) _).alloc (by simp; omega) _
end Go.Proofs.Ytgehbebjgmeccaa
