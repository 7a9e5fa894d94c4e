/- Contracts of functions of the program and of its reference, out of walks. Their conditions stand ahead of each. -/
import Derived.Test.YtgehbebjgmeccaaW2
set_option linter.unusedVariables false
set_option linter.unusedSimpArgs false
namespace Go.Proofs.Ytgehbebjgmeccaa
open Go.RowKit
theorem plus_any (a b x y : Int) (ha : -1000 ≤ a ∧ a ≤ 1000) (hb : -1000 ≤ b ∧ b ≤ 1000) (hx : -1000 ≤ x ∧ x ≤ 1000) (hy : -1000 ≤ y ∧ y ≤ 1000) (w : World) :
    Calls Try.prog 169 #[.agg #[.int .i64 a, .int .i64 b], .agg #[.int .i64 x, .int .i64 y]] w fun e w' => e = .returned (.agg #[.int .i64 (a + x), .int .i64 (b + y)]) ∧ Below w.heap.size w w' := by
  go_enter Try.func169, Try.ntmps169
  go_wp2
  simp [bodyPost, results, Try.results169, go_sem]
  exact (((Below.refl _ _).alloc (Nat.le_refl _) _).alloc (by simp) _).alloc (by simp; omega) _
/-- What cross returns, its terms within bounds. -/
theorem cross_any (a b x y : Int) (h1 : -9000000000000000000 ≤ a * y - b * x ∧ a * y - b * x ≤ 9000000000000000000) (h2 : -9000000000000000000 ≤ a * y ∧ a * y ≤ 9000000000000000000) (h3 : -9000000000000000000 ≤ b * x ∧ b * x ≤ 9000000000000000000) (w : World) :
    Calls Try.prog 130 #[.agg #[.int .i64 a, .int .i64 b], .agg #[.int .i64 x, .int .i64 y]] w fun e w' => e = .returned (.int .i64 (a * y - b * x)) ∧ Below w.heap.size w w' := by
  obtain ⟨h1, h1'⟩ := h1
  obtain ⟨h2, h2'⟩ := h2
  obtain ⟨h3, h3'⟩ := h3
  go_enter Try.func130, Try.ntmps130
  go_wp2
  go_ret
  exact ⟨rfl, ((Below.refl _ _).alloc (Nat.le_refl _) _).alloc (by simp) _⟩
theorem wv_cell (i : Nat) (h : i < 17) : wvA[i]? = some (.int .i64 (Ang.wv.getD i 0)) := by
  match i, h with
  | 0, _ | 1, _ | 2, _ | 3, _ | 4, _ | 5, _ | 6, _ | 7, _ | 8, _ | 9, _ | 10, _ | 11, _ | 12, _ | 13, _ | 14, _ | 15, _ | 16, _ => rfl
  | i + 17, h => exact absurd h (by omega)
theorem entry_rot (m : Int) (m0 : 0 ≤ m) (m1 : m < 64) : Ang.ti m = (rotP (m / 16).toNat (Ang.wv.getD (m % 16).toNat 0, Ang.wv.getD (16 - m % 16).toNat 0)).1 ∧ Ang.tq m = (rotP (m / 16).toNat (Ang.wv.getD (m % 16).toNat 0, Ang.wv.getD (16 - m % 16).toNat 0)).2 :=
  Ang.cases64 (P := fun m => Ang.ti m = (rotP (m / 16).toNat (Ang.wv.getD (m % 16).toNat 0, Ang.wv.getD (16 - m % 16).toNat 0)).1 ∧ Ang.tq m = (rotP (m / 16).toNat (Ang.wv.getD (m % 16).toNat 0, Ang.wv.getD (16 - m % 16).toNat 0)).2) m m0 m1 (by decide)
theorem wv_bd (i : Nat) : 0 ≤ Ang.wv.getD i 0 ∧ Ang.wv.getD i 0 ≤ 127 := by
  match i with
  | 0 | 1 | 2 | 3 | 4 | 5 | 6 | 7 | 8 | 9 | 10 | 11 | 12 | 13 | 14 | 15 | 16 => decide
  | i + 17 => simp [Ang.wv]
theorem entry_any (k : Int) (w : World) :
    Calls Try.prog 136 #[.int .i64 k] w fun e w' => e = .returned (.agg #[.int .i64 (Ang.ti k), .int .i64 (Ang.tq k)]) ∧ Below w.heap.size w w' := by
  have e63 : bits .and .i64 k 63 = k % 64 := K.and63 k
  obtain ⟨m, hm⟩ : ∃ m : Int, m = k % 64 := ⟨_, rfl⟩
  have m0 : 0 ≤ m := by omega
  have m1 : m < 64 := by omega
  have et : Ang.ti k = Ang.ti m ∧ Ang.tq k = Ang.tq m := by
    unfold Ang.ti Ang.tq; rw [hm, show k % 64 % 64 = k % 64 from by omega]; exact ⟨rfl, rfl⟩
  rw [et.1, et.2]
  rw [← hm] at e63
  clear et
  have HM := Lib.hid hm
  clear hm
  go_enter Try.func136, Try.ntmps136
  go_wp2_with fail
  refine (wave_any _).mono ?_
  rintro e w1 ⟨rfl, rfl⟩
  have hst := run_storeCells_new (P := Try.prog) ((w.alloc (.cells #[.int .i64 0, .int .i64 0] 104)).alloc (.cells wvA 137)) 137 zsA wvA (by kernel_rfl) (by kernel_rfl) (by kernel_rfl)
  unfold zsA at hst
  simp only [World.size_alloc] at hst
  go_wp2_with fail
  clear hst
  obtain ⟨a, ha⟩ : ∃ a : Int, m % 16 = a := ⟨_, rfl⟩
  obtain ⟨q, hq⟩ : ∃ q : Int, m / 16 = q := ⟨_, rfl⟩
  have i0 : 0 ≤ a := by omega
  have i1 : a < 16 := by omega
  have q0 : 0 ≤ q := by omega
  have q1 : q < 4 := by omega
  have tm : m.tmod 16 = a := by rw [Int.tmod_eq_emod_of_nonneg m0]; exact ha
  have td : m.tdiv 16 = q := by rw [Int.tdiv_eq_ediv_of_nonneg m0]; exact hq
  have ia : a ≤ 16 := by omega
  have ib : a < 17 := by omega
  have w1 : IntKind.i64.wrap (16 - a) = 16 - a := IntWalk.i64_in _ (by omega)
  have w2 : IntKind.i64.wrap q = q := IntWalk.i64_in _ (by omega)
  have w3 : IntKind.i64.wrap a = a := IntWalk.i64_in _ (by omega)
  have i2 : 0 ≤ 16 - a := by omega
  have i3 : 16 - a < 17 := by omega
  generalize hW : (((w.alloc (.cells #[.int .i64 0, .int .i64 0] 104)).alloc (.cells wvA 137)).alloc (.cells wvA 137)) = W
  have c1 : W.cell? ⟨w.heap.size + 1 + 1, a.toNat, none⟩ = some (.int .i64 (Ang.wv.getD a.toNat 0)) := by
    rw [← hW, ← wv_cell a.toNat (by omega)]; exact cell_of_row _ _ _ _ 137 (0, 0) (by simpa using heap_alloc_last (((w.alloc (.cells #[.int .i64 0, .int .i64 0] 104)).alloc (.cells wvA 137))) (.cells wvA 137))
  have c2 : W.cell? ⟨w.heap.size + 1 + 1, (16 - a).toNat, none⟩ = some (.int .i64 (Ang.wv.getD (16 - a).toNat 0)) := by
    rw [← hW, ← wv_cell (16 - a).toNat (by omega)]; exact cell_of_row _ _ _ _ 137 (0, 0) (by simpa using heap_alloc_last (((w.alloc (.cells #[.int .i64 0, .int .i64 0] 104)).alloc (.cells wvA 137))) (.cells wvA 137))
  have r0 : W.cell? ⟨w.heap.size, 0, none⟩ = some (.int .i64 0) := by rw [← hW]; simp [go_sem]
  have r1 : W.cell? ⟨w.heap.size, 1, none⟩ = some (.int .i64 0) := by rw [← hW]; simp [go_sem]
  have f0 : W.frozen? ⟨w.heap.size, 0, none⟩ = false := by rw [← hW]; simp [go_sem]
  have f1 : W.frozen? ⟨w.heap.size, 1, none⟩ = false := by rw [← hW]; simp [go_sem]
  have hs : w.heap.size < W.heap.size := by rw [← hW]; simp; omega
  have hs2 : w.heap.size + 1 + 1 < W.heap.size := by rw [← hW]; simp
  have hb : Below w.heap.size w W := by rw [← hW]; exact (((Below.refl _ _).alloc (Nat.le_refl _) _).alloc (by simp) _).alloc (by simp; omega) _
  clear hW
  generalize hx : Ang.wv.getD a.toNat 0 = x at *
  generalize hy : Ang.wv.getD (16 - a).toNat 0 = y at *
  have HX := Lib.hid hx
  have HY := Lib.hid hy
  clear hx hy
  have bx : -1000000000000000000 ≤ x ∧ x ≤ 1000000000000000000 := by have := wv_bd a.toNat; rw [HX.out] at this; omega
  have bY : -1000000000000000000 ≤ y ∧ y ≤ 1000000000000000000 := by have := wv_bd (16 - a).toNat; rw [HY.out] at this; omega
  go_region_held3 (fun w' => w'.cell? ⟨w.heap.size + 1 + 1, a.toNat, none⟩ = some (.int .i64 x) ∧ w'.cell? ⟨w.heap.size + 1 + 1, (16 - a).toNat, none⟩ = some (.int .i64 y)) (first | exact ⟨by assumption, by assumption⟩ | (simp [go_sem, *]; done) | go_keep)
    (first | (go_at_call 171; refine (turned_any _ _ _ q0 q1 bx bY _).mono ?_; rintro e w1 ⟨rfl, hb1⟩; have g0 := ((bcell hb1).1 w.heap.size 0 hs).trans r0; have g1 := ((bcell hb1).1 w.heap.size 1 hs).trans r1; have g2 := ((bcell hb1).2 w.heap.size 0 hs).trans f0; have g3 := ((bcell hb1).2 w.heap.size 1 hs).trans f1; have g4 := ((bcell hb1).1 (w.heap.size + 1 + 1) a.toNat hs2).trans c1; have g5 := ((bcell hb1).1 (w.heap.size + 1 + 1) (16 - a).toNat hs2).trans c2; have hsz := hb1.size; have HB1 := Lib.hid hb1; clear hb1))
  go_wp2
  have hf := entry_rot m m0 m1
  rw [ha, hq, HX.out, HY.out] at hf
  rw [hf.1, hf.2]
  simp [bodyPost, results, Try.results136, go_sem, g0, g1]
  exact ((hb.drew.trans (HB1.out.mono (by show w.heap.size ≤ W.heap.size; omega))).setCell (by simp) _).setCell (by simp) _
