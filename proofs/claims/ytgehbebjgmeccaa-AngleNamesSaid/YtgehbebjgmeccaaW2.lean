/- Contracts of functions of the program and of its reference, out of walks. Their conditions stand ahead of each. -/
import Derived.Test.YtgehbebjgmeccaaW1
set_option linter.unusedVariables false
set_option linter.unusedSimpArgs false
namespace Go.Proofs.Ytgehbebjgmeccaa
open Go.RowKit
def rotP : Nat → Int × Int → Int × Int
  | 0, p => p
  | j + 1, p => (-(rotP j p).2, (rotP j p).1)
theorem rotP_succ (j : Nat) (p : Int × Int) : rotP (j + 1) p = (-(rotP j p).2, (rotP j p).1) := rfl
theorem rotP_bd (j : Nat) (x y : Int) (hx : -1000000000000000000 ≤ x ∧ x ≤ 1000000000000000000) (hy : -1000000000000000000 ≤ y ∧ y ≤ 1000000000000000000) :
    (-1000000000000000000 ≤ (rotP j (x, y)).1 ∧ (rotP j (x, y)).1 ≤ 1000000000000000000) ∧ (-1000000000000000000 ≤ (rotP j (x, y)).2 ∧ (rotP j (x, y)).2 ≤ 1000000000000000000) := by
  induction j with
  | zero => exact ⟨hx, hy⟩
  | succ j ih => unfold rotP; simp only; omega
theorem turned_any (n x y : Int) (h0 : 0 ≤ n) (h1 : n < 4) (hx : -1000000000000000000 ≤ x ∧ x ≤ 1000000000000000000) (hy : -1000000000000000000 ≤ y ∧ y ≤ 1000000000000000000) (w : World) :
    Calls Try.prog 171 #[.agg #[.int .i64 x, .int .i64 y], .int .i64 n] w fun e w' => e = .returned (.agg #[.int .i64 (rotP n.toNat (x, y)).1, .int .i64 (rotP n.toNat (x, y)).2]) ∧ Below w.heap.size w w' := by
  have e3 : bits .and .i64 n 3 = n := by rw [K.and3]; omega
  have hbd := rotP_bd
  have Hbd := Lib.hid hbd
  clear hbd
  go_enter Try.func171, Try.ntmps171
  go_wp2_with fail
  go_loopw [7] (fun i wr => ∃ j : Nat, (j : Int) ≤ n ∧ i = .int .i64 j ∧ wr.cell? ⟨w.heap.size, 0, none⟩ = some (.int .i64 (rotP j (x, y)).1) ∧ wr.cell? ⟨w.heap.size, 1, none⟩ = some (.int .i64 (rotP j (x, y)).2) ∧ wr.frozen? ⟨w.heap.size, 0, none⟩ = false ∧ wr.frozen? ⟨w.heap.size, 1, none⟩ = false ∧ wr.frozen? ⟨w.heap.size + 1, 0, none⟩ = false ∧ wr.frozen? ⟨w.heap.size + 1, 1, none⟩ = false ∧ wr.cell? ⟨w.heap.size + 1, 0, none⟩ = some (.int .i64 0) ∧ wr.cell? ⟨w.heap.size + 1, 1, none⟩ = some (.int .i64 0) ∧ w.heap.size + 2 ≤ wr.heap.size ∧ Below w.heap.size w wr) (fun i _ => (n - intOf i).toNat)
  case atStart => exact ⟨0, by omega, rfl, by simp [rotP, go_sem], by simp [rotP, go_sem], by simp [go_sem], by simp [go_sem], by simp [go_sem], by simp [go_sem], by simp [go_sem], by simp [go_sem], by simp, ((Below.refl _ _).alloc (Nat.le_refl _) _).alloc (by simp) _⟩
  case round =>
    obtain ⟨j, hj, rfl, c0, c1, f0, f1, r0, r1, q0, q1, hs, hb⟩ := hrel
    have bd := Hbd.out j x y hx hy
    obtain ⟨⟨b0, b1⟩, b2, b3⟩ := bd
    have z0 : w.heap.size < wr.heap.size := by omega
    have z1 : w.heap.size + 1 < wr.heap.size := by omega
    by_cases hlt : (j : Int) < n
    · go_wp2_with (go_at_call 186; refine (left_any _ _ (by omega) (by omega) _).mono ?_; rintro e w1 ⟨rfl, hb1⟩; obtain ⟨hc, hf⟩ := bcell hb1; have hsz := hb1.size)
      go_roundw
      case rel =>
        refine ⟨j + 1, by omega, by go_num, by rw [rotP_succ]; go_simp, by rw [rotP_succ]; go_simp, by go_simp, by go_simp, by go_simp, by go_simp, by go_simp, by go_simp, by simp; omega, ?_⟩
        exact ((hb.trans (hb1.mono (by omega))).setCell (by simp) _).setCell (by simp) _
      case measure => simp [intOf]; omega
    · go_wp2
      have hnj : n = j := by omega
      subst hnj
      simp [bodyPost, results, Try.results171, go_sem, q0, q1]
      exact ((hb.setCell (by simp) _).setCell (by simp) _)
