/- Plain facts and contracts of functions of the program, out of walks. Their conditions stand ahead of each. -/
import Derived.Test.YtcaaecmbbbdopaaDs1
import Derived.Test.YtcaaecmbbbdopaaDs2
import Derived.BigQuiet
import Derived.Deep.QuietTactic
import Derived.Deep.RegionHeld3
import Derived.Deep.WholeRow
import Derived.Great.BuildSlice
import Derived.Laws.Bits128
import Derived.Laws.Pointers
import Derived.Lib.Hide
import Derived.RowKit3
import Derived.StillTactics
import Derived.StillTailTactics
import Derived.Test.YtcaaecmbbbdopaaProg
import Derived.WalkKit
import Derived.WalkLawsBesides
import Derived.WalkSpells
set_option linter.unusedVariables false
set_option linter.unusedSimpArgs false
namespace Go.Proofs.Ytcaaecmbbbdopaa
open Go.RowKit
theorem ret_int {k : IntKind} {a b : Int} (h : a = b) : Ending.returned (.int k a) = .returned (.int k b) := by rw [h]
theorem bcell {W w1 : World} (hb : Below W.heap.size W w1) : (∀ b o, b < W.heap.size → w1.cell? ⟨b, o, none⟩ = W.cell? ⟨b, o, none⟩) ∧ (∀ b o, b < W.heap.size → w1.frozen? ⟨b, o, none⟩ = W.frozen? ⟨b, o, none⟩) :=
  ⟨fun b o h => hb.cell (p := ⟨b, o, none⟩) h, fun b o h => hb.frozen (p := ⟨b, o, none⟩) h⟩
theorem left_any (x y : Int) (_hx : -9223372036854775807 ≤ x ∧ x ≤ 9223372036854775807) (hy : -9223372036854775807 ≤ y ∧ y ≤ 9223372036854775807) (w : World) :
    Calls Try.prog 67 #[.agg #[.int .i64 x, .int .i64 y]] w fun e w' => e = .returned (.agg #[.int .i64 (-y), .int .i64 x]) ∧ Below w.heap.size w w' := by
  obtain ⟨y0, y1⟩ := hy
  go_enter Try.func67, Try.ntmps67
  go_wp2
  simp [bodyPost, results, Try.results67, go_sem]
  exact ((Below.refl _ _).alloc (Nat.le_refl _) _).alloc (by simp) _
def wvA : Array Value := (Ang.wv.map (Value.int .i64 ·)).toArray
def zsA : Array Value := #[.int .i64 0, .int .i64 0, .int .i64 0, .int .i64 0, .int .i64 0, .int .i64 0, .int .i64 0, .int .i64 0, .int .i64 0, .int .i64 0, .int .i64 0, .int .i64 0, .int .i64 0, .int .i64 0, .int .i64 0, .int .i64 0, .int .i64 0]
theorem wave_any (w : World) :
    Calls Try.prog 66 #[] w fun e w' => e = .returned (.agg wvA) ∧ w' = w.alloc (.cells wvA 86) := by
  have hst := run_storeCells_new (P := Try.prog) w 86 zsA wvA (by kernel_rfl) (by kernel_rfl) (by kernel_rfl)
  unfold zsA at hst
  go_enter Try.func66, Try.ntmps66
  go_wp2_with (first | (refine wpList_buildTo rfl 86 _ rfl _ rfl wvA ?hb ?_; case hb => (as_aux_lemma => kernel_rfl)))
  exact bodyPost_ret (v := .agg wvA) (results_cell_row (p := 0) (ty := 86) (by kernel_rfl) _ _ w.heap.size 86 wvA (0, 0) _ rfl (heap_alloc_last w _) Try.underlying86 rfl (by kernel_rfl)) rfl ⟨rfl, rfl⟩
end Go.Proofs.Ytcaaecmbbbdopaa
namespace Go.Proofs.Ytcaaecmbbbdopaa
open Go.RowKit
def rotP : Nat → Int × Int → Int × Int
  | 0, p => p
  | j + 1, p => (-(rotP j p).2, (rotP j p).1)
theorem rotP_succ (j : Nat) (p : Int × Int) : rotP (j + 1) p = (-(rotP j p).2, (rotP j p).1) := rfl
theorem rotP_bd (j : Nat) (x y : Int) (hx : -1000000000000000000 ≤ x ∧ x ≤ 1000000000000000000) (hy : -1000000000000000000 ≤ y ∧ y ≤ 1000000000000000000) :
    (-1000000000000000000 ≤ (rotP j (x, y)).1 ∧ (rotP j (x, y)).1 ≤ 1000000000000000000) ∧ (-1000000000000000000 ≤ (rotP j (x, y)).2 ∧ (rotP j (x, y)).2 ≤ 1000000000000000000) := by
  induction j with
  | zero => exact ⟨hx, hy⟩
  | succ j ih => unfold rotP; simp only; omega
theorem turned_any (n x y : Int) (h0 : 0 ≤ n) (h1 : n < 4) (hx : -1000000000000000000 ≤ x ∧ x ≤ 1000000000000000000) (hy : -1000000000000000000 ≤ y ∧ y ≤ 1000000000000000000) (w : World) :
    Calls Try.prog 63 #[.agg #[.int .i64 x, .int .i64 y], .int .i64 n] w fun e w' => e = .returned (.agg #[.int .i64 (rotP n.toNat (x, y)).1, .int .i64 (rotP n.toNat (x, y)).2]) ∧ Below w.heap.size w w' := by
  have e3 : bits .and .i64 n 3 = n := by rw [K.and3]; omega
  have hbd := rotP_bd
  have Hbd := Lib.hid hbd
  clear hbd
  go_enter Try.func63, Try.ntmps63
  go_wp2_with fail
  go_loopw [7] (fun i wr => ∃ j : Nat, (j : Int) ≤ n ∧ i = .int .i64 j ∧ wr.cell? ⟨w.heap.size, 0, none⟩ = some (.int .i64 (rotP j (x, y)).1) ∧ wr.cell? ⟨w.heap.size, 1, none⟩ = some (.int .i64 (rotP j (x, y)).2) ∧ wr.frozen? ⟨w.heap.size, 0, none⟩ = false ∧ wr.frozen? ⟨w.heap.size, 1, none⟩ = false ∧ wr.frozen? ⟨w.heap.size + 1, 0, none⟩ = false ∧ wr.frozen? ⟨w.heap.size + 1, 1, none⟩ = false ∧ wr.cell? ⟨w.heap.size + 1, 0, none⟩ = some (.int .i64 0) ∧ wr.cell? ⟨w.heap.size + 1, 1, none⟩ = some (.int .i64 0) ∧ w.heap.size + 2 ≤ wr.heap.size ∧ Below w.heap.size w wr) (fun i _ => (n - intOf i).toNat)
  case atStart => exact ⟨0, by omega, rfl, by simp [rotP, go_sem], by simp [rotP, go_sem], by simp [go_sem], by simp [go_sem], by simp [go_sem], by simp [go_sem], by simp [go_sem], by simp [go_sem], by simp, ((Below.refl _ _).alloc (Nat.le_refl _) _).alloc (by simp) _⟩
  case round =>
    obtain ⟨j, hj, rfl, c0, c1, f0, f1, r0, r1, q0, q1, hs, hb⟩ := hrel
    have bd := Hbd.out j x y hx hy
    obtain ⟨⟨b0, b1⟩, b2, b3⟩ := bd
    have z0 : w.heap.size < wr.heap.size := by omega
    have z1 : w.heap.size + 1 < wr.heap.size := by omega
    by_cases hlt : (j : Int) < n
    · go_wp2_with (go_at_call 67; refine (left_any _ _ (by omega) (by omega) _).mono ?_; rintro e w1 ⟨rfl, hb1⟩; obtain ⟨hc, hf⟩ := bcell hb1; have hsz := hb1.size)
      go_roundw
      case rel =>
        refine ⟨j + 1, by omega, by go_num, by rw [rotP_succ]; go_simp, by rw [rotP_succ]; go_simp, by go_simp, by go_simp, by go_simp, by go_simp, by go_simp, by go_simp, by simp; omega, ?_⟩
        exact ((hb.trans (hb1.mono (by omega))).setCell (by simp) _).setCell (by simp) _
      case measure => simp [intOf]; omega
    · go_wp2
      have hnj : n = j := by omega
      subst hnj
      simp [bodyPost, results, Try.results63, go_sem, q0, q1]
      exact ((hb.setCell (by simp) _).setCell (by simp) _)
end Go.Proofs.Ytcaaecmbbbdopaa
namespace Go.Proofs.Ytcaaecmbbbdopaa
open Go.RowKit
theorem plus_any (a b x y : Int) (ha : -1000 ≤ a ∧ a ≤ 1000) (hb : -1000 ≤ b ∧ b ≤ 1000) (hx : -1000 ≤ x ∧ x ≤ 1000) (hy : -1000 ≤ y ∧ y ≤ 1000) (w : World) :
    Calls Try.prog 62 #[.agg #[.int .i64 a, .int .i64 b], .agg #[.int .i64 x, .int .i64 y]] w fun e w' => e = .returned (.agg #[.int .i64 (a + x), .int .i64 (b + y)]) ∧ Below w.heap.size w w' := by
  go_enter Try.func62, Try.ntmps62
  go_wp2
  simp [bodyPost, results, Try.results62, go_sem]
  exact (((Below.refl _ _).alloc (Nat.le_refl _) _).alloc (by simp) _).alloc (by simp; omega) _
/-- What cross returns, its terms within bounds. -/
theorem cross_any (a b x y : Int) (h1 : -9000000000000000000 ≤ a * y - b * x ∧ a * y - b * x ≤ 9000000000000000000) (h2 : -9000000000000000000 ≤ a * y ∧ a * y ≤ 9000000000000000000) (h3 : -9000000000000000000 ≤ b * x ∧ b * x ≤ 9000000000000000000) (w : World) :
    Calls Try.prog 58 #[.agg #[.int .i64 a, .int .i64 b], .agg #[.int .i64 x, .int .i64 y]] w fun e w' => e = .returned (.int .i64 (a * y - b * x)) ∧ Below w.heap.size w w' := by
  obtain ⟨h1, h1'⟩ := h1
  obtain ⟨h2, h2'⟩ := h2
  obtain ⟨h3, h3'⟩ := h3
  go_enter Try.func58, Try.ntmps58
  go_wp2
  go_ret
  exact ⟨rfl, ((Below.refl _ _).alloc (Nat.le_refl _) _).alloc (by simp) _⟩
theorem wv_cell (i : Nat) (h : i < 17) : wvA[i]? = some (.int .i64 (Ang.wv.getD i 0)) := by
  match i, h with
  | 0, _ | 1, _ | 2, _ | 3, _ | 4, _ | 5, _ | 6, _ | 7, _ | 8, _ | 9, _ | 10, _ | 11, _ | 12, _ | 13, _ | 14, _ | 15, _ | 16, _ => rfl
  | i + 17, h => exact absurd h (by omega)
theorem entry_rot (m : Int) (m0 : 0 ≤ m) (m1 : m < 64) : Ang.ti m = (rotP (m / 16).toNat (Ang.wv.getD (m % 16).toNat 0, Ang.wv.getD (16 - m % 16).toNat 0)).1 ∧ Ang.tq m = (rotP (m / 16).toNat (Ang.wv.getD (m % 16).toNat 0, Ang.wv.getD (16 - m % 16).toNat 0)).2 :=
  Ang.cases64 (P := fun m => Ang.ti m = (rotP (m / 16).toNat (Ang.wv.getD (m % 16).toNat 0, Ang.wv.getD (16 - m % 16).toNat 0)).1 ∧ Ang.tq m = (rotP (m / 16).toNat (Ang.wv.getD (m % 16).toNat 0, Ang.wv.getD (16 - m % 16).toNat 0)).2) m m0 m1 (by decide)
theorem wv_bd (i : Nat) : 0 ≤ Ang.wv.getD i 0 ∧ Ang.wv.getD i 0 ≤ 127 := by
  match i with
  | 0 | 1 | 2 | 3 | 4 | 5 | 6 | 7 | 8 | 9 | 10 | 11 | 12 | 13 | 14 | 15 | 16 => decide
  | i + 17 => simp [Ang.wv]
theorem entry_any (k : Int) (w : World) :
    Calls Try.prog 61 #[.int .i64 k] w fun e w' => e = .returned (.agg #[.int .i64 (Ang.ti k), .int .i64 (Ang.tq k)]) ∧ Below w.heap.size w w' := by
  have e63 : bits .and .i64 k 63 = k % 64 := K.and63 k
  obtain ⟨m, hm⟩ : ∃ m : Int, m = k % 64 := ⟨_, rfl⟩
  have m0 : 0 ≤ m := by omega
  have m1 : m < 64 := by omega
  have et : Ang.ti k = Ang.ti m ∧ Ang.tq k = Ang.tq m := by
    unfold Ang.ti Ang.tq; rw [hm, show k % 64 % 64 = k % 64 from by omega]; exact ⟨rfl, rfl⟩
  rw [et.1, et.2]
  rw [← hm] at e63
  clear et
  have HM := Lib.hid hm
  clear hm
  go_enter Try.func61, Try.ntmps61
  go_wp2_with fail
  refine (wave_any _).mono ?_
  rintro e w1 ⟨rfl, rfl⟩
  have hst := run_storeCells_new (P := Try.prog) ((w.alloc (.cells #[.int .i64 0, .int .i64 0] 79)).alloc (.cells wvA 86)) 86 zsA wvA (by kernel_rfl) (by kernel_rfl) (by kernel_rfl)
  unfold zsA at hst
  simp only [World.size_alloc] at hst
  go_wp2_with fail
  clear hst
  obtain ⟨a, ha⟩ : ∃ a : Int, m % 16 = a := ⟨_, rfl⟩
  obtain ⟨q, hq⟩ : ∃ q : Int, m / 16 = q := ⟨_, rfl⟩
  have i0 : 0 ≤ a := by omega
  have i1 : a < 16 := by omega
  have q0 : 0 ≤ q := by omega
  have q1 : q < 4 := by omega
  have tm : m.tmod 16 = a := by rw [Int.tmod_eq_emod_of_nonneg m0]; exact ha
  have td : m.tdiv 16 = q := by rw [Int.tdiv_eq_ediv_of_nonneg m0]; exact hq
  have ia : a ≤ 16 := by omega
  have ib : a < 17 := by omega
  have w1 : IntKind.i64.wrap (16 - a) = 16 - a := IntWalk.i64_in _ (by omega)
  have w2 : IntKind.i64.wrap q = q := IntWalk.i64_in _ (by omega)
  have w3 : IntKind.i64.wrap a = a := IntWalk.i64_in _ (by omega)
  have i2 : 0 ≤ 16 - a := by omega
  have i3 : 16 - a < 17 := by omega
  generalize hW : (((w.alloc (.cells #[.int .i64 0, .int .i64 0] 79)).alloc (.cells wvA 86)).alloc (.cells wvA 86)) = W
  have c1 : W.cell? ⟨w.heap.size + 1 + 1, a.toNat, none⟩ = some (.int .i64 (Ang.wv.getD a.toNat 0)) := by
    rw [← hW, ← wv_cell a.toNat (by omega)]; exact cell_of_row _ _ _ _ 86 (0, 0) (by simpa using heap_alloc_last (((w.alloc (.cells #[.int .i64 0, .int .i64 0] 79)).alloc (.cells wvA 86))) (.cells wvA 86))
  have c2 : W.cell? ⟨w.heap.size + 1 + 1, (16 - a).toNat, none⟩ = some (.int .i64 (Ang.wv.getD (16 - a).toNat 0)) := by
    rw [← hW, ← wv_cell (16 - a).toNat (by omega)]; exact cell_of_row _ _ _ _ 86 (0, 0) (by simpa using heap_alloc_last (((w.alloc (.cells #[.int .i64 0, .int .i64 0] 79)).alloc (.cells wvA 86))) (.cells wvA 86))
  have r0 : W.cell? ⟨w.heap.size, 0, none⟩ = some (.int .i64 0) := by rw [← hW]; simp [go_sem]
  have r1 : W.cell? ⟨w.heap.size, 1, none⟩ = some (.int .i64 0) := by rw [← hW]; simp [go_sem]
  have f0 : W.frozen? ⟨w.heap.size, 0, none⟩ = false := by rw [← hW]; simp [go_sem]
  have f1 : W.frozen? ⟨w.heap.size, 1, none⟩ = false := by rw [← hW]; simp [go_sem]
  have hs : w.heap.size < W.heap.size := by rw [← hW]; simp; omega
  have hs2 : w.heap.size + 1 + 1 < W.heap.size := by rw [← hW]; simp
  have hb : Below w.heap.size w W := by rw [← hW]; exact (((Below.refl _ _).alloc (Nat.le_refl _) _).alloc (by simp) _).alloc (by simp; omega) _
  clear hW
  generalize hx : Ang.wv.getD a.toNat 0 = x at *
  generalize hy : Ang.wv.getD (16 - a).toNat 0 = y at *
  have HX := Lib.hid hx
  have HY := Lib.hid hy
  clear hx hy
  have bx : -1000000000000000000 ≤ x ∧ x ≤ 1000000000000000000 := by have := wv_bd a.toNat; rw [HX.out] at this; omega
  have bY : -1000000000000000000 ≤ y ∧ y ≤ 1000000000000000000 := by have := wv_bd (16 - a).toNat; rw [HY.out] at this; omega
  go_region_held3 (fun w' => w'.cell? ⟨w.heap.size + 1 + 1, a.toNat, none⟩ = some (.int .i64 x) ∧ w'.cell? ⟨w.heap.size + 1 + 1, (16 - a).toNat, none⟩ = some (.int .i64 y)) (first | exact ⟨by assumption, by assumption⟩ | (simp [go_sem, *]; done) | go_keep)
    (first | (go_at_call 63; refine (turned_any _ _ _ q0 q1 bx bY _).mono ?_; rintro e w1 ⟨rfl, hb1⟩; have g0 := ((bcell hb1).1 w.heap.size 0 hs).trans r0; have g1 := ((bcell hb1).1 w.heap.size 1 hs).trans r1; have g2 := ((bcell hb1).2 w.heap.size 0 hs).trans f0; have g3 := ((bcell hb1).2 w.heap.size 1 hs).trans f1; have g4 := ((bcell hb1).1 (w.heap.size + 1 + 1) a.toNat hs2).trans c1; have g5 := ((bcell hb1).1 (w.heap.size + 1 + 1) (16 - a).toNat hs2).trans c2; have hsz := hb1.size; have HB1 := Lib.hid hb1; clear hb1))
  go_wp2
  have hf := entry_rot m m0 m1
  rw [ha, hq, HX.out, HY.out] at hf
  rw [hf.1, hf.2]
  simp [bodyPost, results, Try.results61, go_sem, g0, g1]
  exact ((hb.drew.trans (HB1.out.mono (by show w.heap.size ≤ W.heap.size; omega))).setCell (by simp) _).setCell (by simp) _
end Go.Proofs.Ytcaaecmbbbdopaa
namespace Go.Proofs.Ytcaaecmbbbdopaa
open Go.RowKit
theorem step2 {W w1 : World} {b : Nat} (hb : Below W.heap.size W w1) (h : b < W.heap.size) : (∀ o, w1.cell? ⟨b, o, none⟩ = W.cell? ⟨b, o, none⟩) ∧ (∀ o, w1.frozen? ⟨b, o, none⟩ = W.frozen? ⟨b, o, none⟩) ∧ b < w1.heap.size :=
  ⟨fun o => (bcell hb).1 b o h, fun o => (bcell hb).2 b o h, Nat.lt_of_lt_of_le h hb.size⟩
theorem ti_bd (k : Int) : -127 ≤ Ang.ti k ∧ Ang.ti k ≤ 127 ∧ -127 ≤ Ang.tq k ∧ Ang.tq k ≤ 127 := by
  have h := Ang.cases64 (P := fun m => -127 ≤ Ang.ti m ∧ Ang.ti m ≤ 127 ∧ -127 ≤ Ang.tq m ∧ Ang.tq m ≤ 127) (k % 64) (by omega) (by omega) (by decide)
  have e : Ang.ti (k % 64) = Ang.ti k ∧ Ang.tq (k % 64) = Ang.tq k := by
    unfold Ang.ti Ang.tq; rw [show k % 64 % 64 = k % 64 from by omega]; exact ⟨rfl, rfl⟩
  rw [e.1, e.2] at h
  exact h
theorem mi_bd (k : Int) : -254 ≤ Ang.mi k ∧ Ang.mi k ≤ 254 ∧ -254 ≤ Ang.mq k ∧ Ang.mq k ≤ 254 := by
  have a := ti_bd k
  have b := ti_bd (k + 1)
  unfold Ang.mi Ang.mq
  omega
theorem boundary_any (k : Int) (h0 : -1000 ≤ k) (h1 : k ≤ 1000) (w : World) :
    Calls Try.prog 57 #[.int .i64 k] w fun e w' => e = .returned (.agg #[.int .i64 (Ang.mi k), .int .i64 (Ang.mq k)]) ∧ Below w.heap.size w w' := by
  have b1 := ti_bd k
  have b2 := ti_bd (k + 1)
  go_enter Try.func57, Try.ntmps57
  go_wp2_with fail
  refine (entry_any _ _).mono ?_
  rintro e w1 ⟨rfl, hb1⟩
  obtain ⟨c1, f1, z1⟩ := step2 (b := w.heap.size) hb1 (by simp)
  go_wp2_with fail
  refine (entry_any _ _).mono ?_
  rintro e w2 ⟨rfl, hb2⟩
  obtain ⟨c2, f2, z2⟩ := step2 hb2 z1
  go_wp2_with fail
  refine (plus_any _ _ _ _ (by omega) (by omega) (by omega) (by omega) _).mono ?_
  rintro e w3 ⟨rfl, hb3⟩
  obtain ⟨c3, f3, z3⟩ := step2 hb3 z2
  go_wp2_with fail
  simp [bodyPost, results, Try.results57, go_sem, c1, c2, c3]
  refine ⟨⟨rfl, rfl⟩, ?_⟩
  exact ((((((Below.refl _ _).alloc (Nat.le_refl _) _).trans (hb1.mono (by simp))).trans (hb2.mono (by omega))).trans (hb3.mono (by omega))).setCell (by simp) _).setCell (by simp) _
def pB (k x y : Int) : Bool := decide (Ang.d k x y < 0)
theorem mulbd (a x A X : Int) (h0 : -A ≤ a) (h1 : a ≤ A) (g0 : -X ≤ x) (g1 : x ≤ X) : -(A * X) ≤ a * x ∧ a * x ≤ A * X := by
  have p1 := Int.mul_nonneg (show 0 ≤ A - a by omega) (show 0 ≤ X + x by omega)
  have p2 := Int.mul_nonneg (show 0 ≤ A + a by omega) (show 0 ≤ X - x by omega)
  have p3 := Int.mul_nonneg (show 0 ≤ A - a by omega) (show 0 ≤ X - x by omega)
  have p4 := Int.mul_nonneg (show 0 ≤ A + a by omega) (show 0 ≤ X + x by omega)
  have e1 : (A - a) * (X + x) = A * X + A * x - a * X - a * x := by grind
  have e2 : (A + a) * (X - x) = A * X - A * x + a * X - a * x := by grind
  have e3 : (A - a) * (X - x) = A * X - A * x - a * X + a * x := by grind
  have e4 : (A + a) * (X + x) = A * X + A * x + a * X + a * x := by grind
  omega
theorem closure_any (k x y : Int) (b : Nat) (h0 : -1000 ≤ k) (h1 : k ≤ 1000) (hx : -70368744177664 ≤ x ∧ x ≤ 70368744177664) (hy : -70368744177664 ≤ y ∧ y ≤ 70368744177664) (w : World)
    (c0 : w.cell? ⟨b, 0, none⟩ = some (.int .i64 x)) (c1 : w.cell? ⟨b, 1, none⟩ = some (.int .i64 y)) (hbs : b < w.heap.size) :
    Calls Try.prog 65 #[.int .i64 k, .pointer (some ⟨b, 0, none⟩)] w fun e w' => e = .returned (.bool (pB k x y)) ∧ Below w.heap.size w w' := by
  have m := mi_bd k
  have p1 := mulbd y (Ang.mi k) 70368744177664 254 hy.1 hy.2 m.1 m.2.1
  have p2 := mulbd x (Ang.mq k) 70368744177664 254 hx.1 hx.2 m.2.2.1 m.2.2.2
  have hfin : decide (y * Ang.mi k < x * Ang.mq k) = pB k x y := by
    unfold pB Ang.d; rw [Int.mul_comm x, Int.mul_comm y, decide_eq_decide]; omega
  have HF := Lib.hid hfin
  clear hfin m
  go_enter Try.func65, Try.ntmps65
  go_wp2_with fail
  go_region_held3 (fun w' => w'.cell? ⟨b, 0, none⟩ = some (.int .i64 x) ∧ w'.cell? ⟨b, 1, none⟩ = some (.int .i64 y)) (first | exact ⟨by assumption, by assumption⟩ | (simp [go_sem, *]; done))
    (first
      | (go_at_call 57; refine (boundary_any _ h0 h1 _).mono ?_; rintro e w1 ⟨rfl, hb1⟩; obtain ⟨g1, g2, z1⟩ := step2 (b := b) hb1 hbs; have G0 := (g1 0).trans c0; have G1 := (g1 1).trans c1; have HB1 := Lib.hid hb1; clear hb1 g1 g2)
      | (go_at_call 58; refine (cross_any _ _ _ _ (by omega) (by omega) (by omega) _).mono ?_; rintro e w2 ⟨rfl, hb2⟩; obtain ⟨g1, g2, z2⟩ := step2 (b := b) hb2 z1; have G2 := (g1 0).trans G0; have G3 := (g1 1).trans G1; have HB2 := Lib.hid hb2; clear hb2 g1 g2))
  go_wp2
  go_ret
  exact ⟨by rw [← HF.out]; rfl, ((Below.refl _ _).drew.trans HB1.out).trans (HB2.out.mono (Nat.le_trans (Nat.le_refl _) HB1.out.size))⟩
theorem small_yes (x y : Int) (hx : -70368744177664 ≤ x ∧ x ≤ 70368744177664) (hy : -70368744177664 ≤ y ∧ y ≤ 70368744177664) (w : World) :
    Calls Try.prog 59 #[.agg #[.int .i64 x, .int .i64 y]] w fun e w' => e = .returned (.bool true) ∧ Below w.heap.size w w' := by
  obtain ⟨x0, x1⟩ := hx
  obtain ⟨y0, y1⟩ := hy
  go_enter Try.func59, Try.ntmps59
  go_wp2_with fail
  all_goals go_ret
  all_goals exact ⟨rfl, (Below.refl _ _).alloc (Nat.le_refl _) _⟩
theorem small_no (x y : Int) (h : ¬ (-70368744177664 ≤ x ∧ x ≤ 70368744177664 ∧ -70368744177664 ≤ y ∧ y ≤ 70368744177664)) (w : World) :
    Calls Try.prog 59 #[.agg #[.int .i64 x, .int .i64 y]] w fun e w' => e = .returned (.bool false) ∧ Below w.heap.size w w' := by
  have H := Lib.hid h
  clear h
  go_enter Try.func59, Try.ntmps59
  go_wp2_with fail
  all_goals go_ret
  all_goals refine ⟨?_, (Below.refl _ _).alloc (Nat.le_refl _) _⟩
  all_goals have := H.out
  all_goals first | rfl | (simp; omega)

end Go.Proofs.Ytcaaecmbbbdopaa
namespace Go.Proofs.Ytcaaecmbbbdopaa
open Go.RowKit
theorem pB_le {x y : Int} (hm : ∀ k : Int, 0 ≤ k → k < 16 → pB k x y = true → pB (k + 1) x y = true) (n : Nat) (t : Int) (t0 : 0 ≤ t) (tn : t + n ≤ 16) (h : pB t x y = true) : pB (t + n) x y = true := by
  induction n with
  | zero => simpa using h
  | succ n ih =>
    have := hm (t + n) (by omega) (by omega) (ih (by omega))
    rwa [show t + (n : Int) + 1 = t + ((n + 1 : Nat) : Int) from by omega] at this
def Found (x y : Int) (w : World) (e : Ending) (w' : World) : Prop := (∃ k : Int, e = .returned (.int .i64 k) ∧ 0 ≤ k ∧ k ≤ 16 ∧ (∀ t, 0 ≤ t → t < k → pB t x y = false) ∧ (k < 16 → pB k x y = true)) ∧ Below w.heap.size w w'
theorem search_any (x y : Int) (b : Nat) (hx : -70368744177664 ≤ x ∧ x ≤ 70368744177664) (hy : -70368744177664 ≤ y ∧ y ≤ 70368744177664) (w : World)
    (c0 : w.cell? ⟨b, 0, none⟩ = some (.int .i64 x)) (c1 : w.cell? ⟨b, 1, none⟩ = some (.int .i64 y)) (hbs : b < w.heap.size) (hmono : ∀ k : Int, 0 ≤ k → k < 16 → pB k x y = true → pB (k + 1) x y = true) :
    Calls Try.prog 64 #[.int .i64 16, .func (.func 65) #[] #[.pointer (some ⟨b, 0, none⟩)]] w (Found x y w) := by
  have HM := Lib.hid hmono
  clear hmono
  go_enter Try.func64, Try.ntmps64
  go_wp2_with fail
  go_loopw [5, 6] (fun u v wr => ∃ i j : Int, u = .int .i64 i ∧ v = .int .i64 j ∧ 0 ≤ i ∧ i ≤ j ∧ j ≤ 16 ∧ (∀ t, 0 ≤ t → t < i → pB t x y = false) ∧ (j < 16 → pB j x y = true) ∧ Below w.heap.size w wr) (fun u v _ => (intOf v - intOf u).toNat)
  case atStart => exact ⟨0, 16, rfl, rfl, by omega, by omega, by omega, fun t h0 h1 => by omega, fun h => by omega, Below.refl _ _⟩
  case round =>
    obtain ⟨i, j, rfl, rfl, i0, ij, j1, hlo, hhi, hb⟩ := hrel
    have HL := Lib.hid hlo
    have HH := Lib.hid hhi
    clear hlo hhi
    obtain ⟨gc, gf⟩ := bcell hb
    have d0 := (gc b 0 hbs).trans c0
    have d1 := (gc b 1 hbs).trans c1
    have hbr : b < wr.heap.size := Nat.lt_of_lt_of_le hbs hb.size
    clear gc gf
    by_cases hlt : i < j
    · go_wp2_with fail
      have k0 : 0 ≤ (i + j) / 2 := by omega
      have k1 : i ≤ (i + j) / 2 := by omega
      have k2 : (i + j) / 2 < j := by omega
      cases hp : pB ((i + j) / 2) x y
      · refine (closure_any _ x y b (by omega) (by omega) hx hy _ d0 d1 hbr).mono ?_
        rintro e w1 ⟨rfl, hb1⟩
        have HP := Lib.hid hp
        rw [hp]
        clear hp
        go_wp2_with fail
        refine ⟨⟨_, _, rfl, rfl, by omega, by omega, by omega, ?_, HH.out, hb.trans (hb1.mono hb.size)⟩, by simp [intOf]; omega⟩
        intro t t0 t1
        cases ht : pB t x y
        · rfl
        · exact absurd (pB_le HM.out ((i + j) / 2 - t).toNat t t0 (by omega) ht) (by rw [show t + (((i + j) / 2 - t).toNat : Int) = (i + j) / 2 from by omega, HP.out]; simp)
      · refine (closure_any _ x y b (by omega) (by omega) hx hy _ d0 d1 hbr).mono ?_
        rintro e w1 ⟨rfl, hb1⟩
        have HP := Lib.hid hp
        rw [hp]
        clear hp
        go_wp2_with fail
        exact ⟨⟨_, _, rfl, rfl, by omega, by omega, by omega, HL.out, fun _ => HP.out, hb.trans (hb1.mono hb.size)⟩, by simp [intOf]; omega⟩
    · go_wp2
      have hij : j = i := by omega
      subst hij
      go_ret
      exact ⟨⟨_, rfl, i0, j1, HL.out, HH.out⟩, hb⟩
end Go.Proofs.Ytcaaecmbbbdopaa
namespace Go.Proofs.Ytcaaecmbbbdopaa
open Go.RowKit
def bk : Nat → Int × Int → Int × Int
  | 0, p => p
  | j + 1, p => ((bk j p).2, -(bk j p).1)
theorem bk_succ (j : Nat) (p : Int × Int) : bk (j + 1) p = ((bk j p).2, -(bk j p).1) := rfl
theorem rotP3 (x y : Int) : rotP (3 : Int).toNat (x, y) = (y, -x) := by
  show (-(-y), -x) = (y, -x); rw [Int.neg_neg]
theorem bk_bd (j : Nat) (x y A : Int) (hx : -A ≤ x ∧ x ≤ A) (hy : -A ≤ y ∧ y ≤ A) :
    (-A ≤ (bk j (x, y)).1 ∧ (bk j (x, y)).1 ≤ A) ∧ (-A ≤ (bk j (x, y)).2 ∧ (bk j (x, y)).2 ≤ A) := by
  induction j with
  | zero => exact ⟨hx, hy⟩
  | succ j ih => rw [bk_succ]; simp only; omega
def Seen (j : Nat) (x y : Int) : Prop := (1 ≤ j → ¬ (0 < x ∧ 0 ≤ y)) ∧ (2 ≤ j → ¬ (0 < y ∧ 0 ≤ -x)) ∧ (3 ≤ j → ¬ (0 < -x ∧ 0 ≤ -y))
theorem seen_next (j : Nat) (x y : Int) (hne : x ≠ 0 ∨ y ≠ 0) (hj : j ≤ 3) (h : Seen j x y) (hn : ¬ (0 < (bk j (x, y)).1 ∧ 0 ≤ (bk j (x, y)).2)) : j + 1 ≤ 3 ∧ Seen (j + 1) x y := by
  unfold Seen at *
  match j, hj with
  | 0, _ => simp [bk] at hn; omega
  | 1, _ => simp [bk] at hn; omega
  | 2, _ => simp [bk] at hn; omega
  | 3, _ => simp [bk] at hn; omega
theorem sector_last (j : Nat) (k x y : Int) (hj : j ≤ 3) (hq : 0 < (bk j (x, y)).1 ∧ 0 ≤ (bk j (x, y)).2) (h0 : 0 ≤ k) (h1 : k ≤ 16) (hlo : ∀ t, 0 ≤ t → t < k → pB t (bk j (x, y)).1 (bk j (x, y)).2 = false) (hhi : k < 16 → pB k (bk j (x, y)).1 (bk j (x, y)).2 = true) :
    Ang.secF x y = (k + 16 * j) % 64 := by
  have s := Ang.sec0 k _ _ h0 h1 (show Ang.Quarter 0 (bk j (x, y)).1 (bk j (x, y)).2 from Or.inl ⟨rfl, hq.1, hq.2⟩)
    (fun t t0 t1 => by have := hlo t t0 t1; simpa [pB] using this) (fun h => by have := hhi h; simpa [pB] using this)
  refine Ang.secF_eq (Ang.isSec_rotN j k x y _ _ s ?_ ?_ ?_ ?_ (by omega))
  · rintro rfl; exact ⟨rfl, rfl⟩
  · rintro rfl; simp [bk]
  · rintro rfl; simp [bk]
  · rintro rfl; simp [bk]
theorem pB_mono (x y : Int) (hq : 0 < x ∧ 0 ≤ y) (k : Int) (h0 : 0 ≤ k) (h1 : k < 16) (h : pB k x y = true) : pB (k + 1) x y = true := by
  unfold pB at *
  simp only [decide_eq_true_eq] at *
  exact Ang.next k x y h0 h1 (Or.inl ⟨rfl, hq.1, hq.2⟩) h
theorem turned3 (x y : Int) (hx : -70368744177664 ≤ x ∧ x ≤ 70368744177664) (hy : -70368744177664 ≤ y ∧ y ≤ 70368744177664) (w : World) :
    Calls Try.prog 63 #[.agg #[.int .i64 x, .int .i64 y], .int .i64 3] w fun e w' => e = .returned (.agg #[.int .i64 y, .int .i64 (-x)]) ∧ Below w.heap.size w w' := by
  have h := turned_any 3 x y (by omega) (by omega) (by omega) (by omega) w
  rw [rotP3] at h
  exact h
theorem sector_any (x y : Int) (hne : x ≠ 0 ∨ y ≠ 0) (hx : -70368744177664 ≤ x ∧ x ≤ 70368744177664) (hy : -70368744177664 ≤ y ∧ y ≤ 70368744177664) (w : World) :
    Calls Try.prog 60 #[.agg #[.int .i64 x, .int .i64 y]] w fun e w' => e = .returned (.int .i64 (Ang.secF x y)) ∧ Below w.heap.size w w' := by
  have HN := Lib.hid hne
  clear hne
  go_enter Try.func60, Try.ntmps60
  go_wp2_with fail
  go_loopw [3] (fun u wr => ∃ j : Nat, u = .int .i64 j ∧ j ≤ 3 ∧ Seen j x y ∧ wr.cell? ⟨w.heap.size, 0, none⟩ = some (.int .i64 (bk j (x, y)).1) ∧ wr.cell? ⟨w.heap.size, 1, none⟩ = some (.int .i64 (bk j (x, y)).2) ∧ wr.frozen? ⟨w.heap.size, 0, none⟩ = false ∧ wr.frozen? ⟨w.heap.size, 1, none⟩ = false ∧ w.heap.size < wr.heap.size ∧ Below w.heap.size w wr) (fun u _ => (4 - intOf u).toNat)
  case atStart => exact ⟨0, rfl, by omega, ⟨by omega, by omega, by omega⟩, by simp [bk, go_sem], by simp [bk, go_sem], by simp [go_sem], by simp [go_sem], by simp, (Below.refl _ _).alloc (Nat.le_refl _) _⟩
  case round =>
    obtain ⟨j, rfl, j3, hseen, c0, c1, f0, f1, hs, hb⟩ := hrel
    have HS := Lib.hid hseen
    clear hseen
    obtain ⟨bx, bY⟩ := bk_bd j x y 70368744177664 hx hy
    have last := fun (k : Int) => sector_last j k x y j3
    have HL := Lib.hid last
    clear last
    have nxt := seen_next j x y HN.out j3 HS.out
    have HX := Lib.hid nxt
    clear nxt
    have hbs := bk_succ j (x, y)
    have HB := Lib.hid hbs
    clear hbs
    generalize hp : (bk j (x, y)).1 = p at *
    generalize hq : (bk j (x, y)).2 = q at *
    have HP := Lib.hid hp
    have HQ := Lib.hid hq
    clear hp hq
    by_cases t1 : p ≤ 0
    · have nx := HX.out (by omega)
      go_wp2_with (go_at_call 63; refine (turned3 _ _ bx bY _).mono ?_; rintro e w1 ⟨rfl, hb1⟩; obtain ⟨g1, g2, z1⟩ := step2 (b := w.heap.size) hb1 hs)
      refine ⟨⟨j + 1, by go_num, nx.1, nx.2, by rw [HB.out]; go_simp, by rw [HB.out]; go_simp, by go_simp, by go_simp, by simpa using z1, ((hb.trans (hb1.mono (by omega))).setCell (by simp) _).setCell (by simp) _⟩, by simp [intOf]; omega⟩
    by_cases t2 : q < 0
    · have nx := HX.out (by omega)
      go_wp2_with (go_at_call 63; refine (turned3 _ _ bx bY _).mono ?_; rintro e w1 ⟨rfl, hb1⟩; obtain ⟨g1, g2, z1⟩ := step2 (b := w.heap.size) hb1 hs)
      refine ⟨⟨j + 1, by go_num, nx.1, nx.2, by rw [HB.out]; go_simp, by rw [HB.out]; go_simp, by go_simp, by go_simp, by simpa using z1, ((hb.trans (hb1.mono (by omega))).setCell (by simp) _).setCell (by simp) _⟩, by simp [intOf]; omega⟩
    · have hq1 : 0 < p ∧ 0 ≤ q := by omega
      have hmono := pB_mono p q hq1
      have HM := Lib.hid hmono
      clear hmono
      have HQ1 := Lib.hid hq1
      clear hq1
      go_wp2_with fail
      refine (search_any p q w.heap.size bx bY _ c0 c1 hs HM.out).mono ?_
      rintro e w1 ⟨⟨k, rfl, k0, k1, hlo, hhi⟩, hb1⟩
      have hsec := HL.out k HQ1.out k0 k1 hlo hhi
      have HSEC := Lib.hid hsec
      clear hsec hlo hhi
      go_wp2_with fail
      go_ret
      exact ⟨ret_int HSEC.out.symm, hb.trans (hb1.mono (by omega))⟩
end Go.Proofs.Ytcaaecmbbbdopaa
namespace Go.Proofs.Ytcaaecmbbbdopaa
open Go.RowKit
theorem Sector_no (x y : Int) (h : ¬ (-70368744177664 ≤ x ∧ x ≤ 70368744177664 ∧ -70368744177664 ≤ y ∧ y ≤ 70368744177664)) (w : World) :
    Calls Try.prog 56 #[.agg #[.int .i64 x, .int .i64 y]] w fun e w' => e = .returned (.tuple #[.int .i64 0, .int .i64 2]) ∧ Below w.heap.size w w' := by
  have H := Lib.hid h
  clear h
  go_enter Try.func56, Try.ntmps56
  go_wp2_with (go_at_call 59; refine (small_no x y H.out _).mono ?_; rintro e w1 ⟨rfl, hb1⟩)
  go_ret2
  exact ⟨rfl, ((Below.refl _ _).alloc (Nat.le_refl _) _).trans (hb1.mono (by simp))⟩
theorem Sector_yes (x y : Int) (hx : -70368744177664 ≤ x ∧ x ≤ 70368744177664) (hy : -70368744177664 ≤ y ∧ y ≤ 70368744177664) (w : World) :
    Calls Try.prog 56 #[.agg #[.int .i64 x, .int .i64 y]] w fun e w' => e = .returned (.tuple #[.int .i64 (Ang.secF x y), .int .i64 0]) ∧ Below w.heap.size w w' := by
  by_cases hx0 : x = 0
  · subst hx0
    by_cases hy0 : y = 0
    · subst hy0
      go_enter Try.func56, Try.ntmps56
      go_wp2_with (go_at_call 59; refine (small_yes _ _ hx hy _).mono ?_; rintro e w1 ⟨rfl, hb1⟩; obtain ⟨g1, f1, z1⟩ := step2 (b := w.heap.size) hb1 (by simp))
      go_ret2
      exact ⟨by rw [Ang.secF_zero]; rfl, ((Below.refl _ _).alloc (Nat.le_refl _) _).trans (hb1.mono (by simp))⟩
    · have h0 : (y == 0) = false := by simpa using hy0
      have hne : (0 : Int) ≠ 0 ∨ y ≠ 0 := Or.inr hy0
      have HN := Lib.hid hne
      clear hne hy0
      go_enter Try.func56, Try.ntmps56
      go_wp2_with (first | (go_at_call 59; refine (small_yes _ _ hx hy _).mono ?_; rintro e w1 ⟨rfl, hb1⟩; obtain ⟨g1, f1, z1⟩ := step2 (b := w.heap.size) hb1 (by simp)) | (go_at_call 60; refine (sector_any _ _ HN.out hx hy _).mono ?_; rintro e w2 ⟨rfl, hb2⟩))
      go_ret2
      exact ⟨rfl, (((Below.refl _ _).alloc (Nat.le_refl _) _).trans (hb1.mono (by simp))).trans (hb2.mono (by omega))⟩
  · have h0 : (x == 0) = false := by simpa using hx0
    have hne : x ≠ 0 ∨ y ≠ 0 := Or.inl hx0
    have HN := Lib.hid hne
    clear hne hx0
    go_enter Try.func56, Try.ntmps56
    go_wp2_with (first | (go_at_call 59; refine (small_yes _ _ hx hy _).mono ?_; rintro e w1 ⟨rfl, hb1⟩; obtain ⟨g1, f1, z1⟩ := step2 (b := w.heap.size) hb1 (by simp)) | (go_at_call 60; refine (sector_any _ _ HN.out hx hy _).mono ?_; rintro e w2 ⟨rfl, hb2⟩))
    go_ret2
    exact ⟨rfl, (((Below.refl _ _).alloc (Nat.le_refl _) _).trans (hb1.mono (by simp))).trans (hb2.mono (by omega))⟩
theorem Fine_no (x y : Int) (h : ¬ (-70368744177664 ≤ x ∧ x ≤ 70368744177664 ∧ -70368744177664 ≤ y ∧ y ≤ 70368744177664)) (w : World) :
    Calls Try.prog 53 #[.agg #[.int .i64 x, .int .i64 y]] w fun e w' => e = .returned (.tuple #[.int .i64 0, .int .i64 2]) ∧ Below w.heap.size w w' := by
  have H := Lib.hid h
  clear h
  go_enter Try.func53, Try.ntmps53
  go_wp2_with (go_at_call 56; refine (Sector_no x y H.out _).mono ?_; rintro e w1 ⟨rfl, hb1⟩)
  go_ret2
  exact ⟨rfl, ((Below.refl _ _).alloc (Nat.le_refl _) _).trans (hb1.mono (by simp))⟩
theorem Fine_zero (w : World) :
    Calls Try.prog 53 #[.agg #[.int .i64 0, .int .i64 0]] w fun e w' => e = .returned (.tuple #[.int .i64 0, .int .i64 0]) ∧ Below w.heap.size w w' := by
  go_enter Try.func53, Try.ntmps53
  go_wp2_with (go_at_call 56; refine (Sector_yes 0 0 (by omega) (by omega) _).mono ?_; rintro e w1 ⟨rfl, hb1⟩; obtain ⟨g1, f1, z1⟩ := step2 (b := w.heap.size) hb1 (by simp))
  go_ret2
  exact ⟨rfl, ((Below.refl _ _).alloc (Nat.le_refl _) _).trans (hb1.mono (by simp))⟩
end Go.Proofs.Ytcaaecmbbbdopaa
namespace Go.Proofs.Ytcaaecmbbbdopaa
open Go.RowKit
theorem Fine_x (x y : Int) (hx0 : x ≠ 0) (hx : -70368744177664 ≤ x ∧ x ≤ 70368744177664) (hy : -70368744177664 ≤ y ∧ y ≤ 70368744177664) (w : World) :
    Calls Try.prog 53 #[.agg #[.int .i64 x, .int .i64 y]] w fun e w' => e = .returned (.tuple #[.int .i64 (Ang.fineF x y), .int .i64 0]) ∧ Below w.heap.size w w' := by
  have h0 : (x == 0) = false := by simpa using hx0
  have hne : x ≠ 0 ∨ y ≠ 0 := Or.inl hx0
  have hsec := Ang.secF_is x y hne
  have k0 := hsec.1
  have k1 := hsec.2.1
  have hfab := Ang.fab hsec
  have hfe := Ang.fineF_eq hne
  have hfl : Ang.fl x y = 64 * Ang.fa x y / (Ang.fa x y + Ang.fb x y) := rfl
  rw [hfl, hfab.1, hfab.2.1] at hfe
  have hpos := hfab.2.2
  rw [hfab.1, hfab.2.1] at hpos
  unfold Ang.d at hfe hpos
  have HFE := Lib.hid hfe
  clear hsec hfab hfl hne hfe hx0
  generalize hk : Ang.secF x y = k at *
  have HK := Lib.hid hk
  clear hk
  have m := mi_bd k
  have p1 := mulbd (Ang.mi k) y 254 70368744177664 m.1 m.2.1 hy.1 hy.2
  have p2 := mulbd (Ang.mq k) x 254 70368744177664 m.2.2.1 m.2.2.2 hx.1 hx.2
  have m' := mi_bd (k - 1)
  have p3 := mulbd (Ang.mi (k - 1)) y 254 70368744177664 m'.1 m'.2.1 hy.1 hy.2
  have p4 := mulbd (Ang.mq (k - 1)) x 254 70368744177664 m'.2.2.1 m'.2.2.2 hx.1 hx.2
  have e1 := Int.mul_comm (Ang.mi k) y
  have e2 := Int.mul_comm (Ang.mq k) x
  rw [e1] at p1
  rw [e2] at p2
  rw [e1, e2] at hpos
  have hfe := HFE.out
  rw [e1, e2] at hfe
  have HF := Lib.hid hfe
  clear hfe HFE m m' e1 e2
  go_enter Try.func53, Try.ntmps53
  go_wp2_with fail
  refine (Sector_yes x y hx hy _).mono ?_
  rintro e w1 ⟨rfl, hb1⟩
  rw [HK.out]
  obtain ⟨g1, f1, z1⟩ := step2 (b := w.heap.size) hb1 (by simp)
  have c0 : w1.cell? ⟨w.heap.size, 0, none⟩ = some (.int .i64 x) := by rw [g1]; simp [go_sem]
  have c1 : w1.cell? ⟨w.heap.size, 1, none⟩ = some (.int .i64 y) := by rw [g1]; simp [go_sem]
  clear g1 f1
  have HB1 := ((Below.refl _ _).alloc (Nat.le_refl _) _).trans (hb1.mono (by simp))
  have hb0 := Lib.hid HB1
  clear HB1 hb1
  have w1' : IntKind.i64.wrap (k - 1) = k - 1 := IntWalk.i64_in _ (by omega)
  go_wp2_with fail
  go_region_held3 (fun w' => w'.cell? ⟨w.heap.size, 0, none⟩ = some (.int .i64 x) ∧ w'.cell? ⟨w.heap.size, 1, none⟩ = some (.int .i64 y)) (first | exact ⟨by assumption, by assumption⟩ | (simp [go_sem, *]; done))
    (first
      | (go_at_call 57; refine (boundary_any _ (by omega) (by omega) _).mono ?_; rintro e w1 ⟨rfl, hb1⟩; obtain ⟨g1, g2, z1⟩ := step2 (b := w.heap.size) hb1 (by assumption); have G0 := (g1 0).trans (by assumption); have G1 := (g1 1).trans (by assumption); have HC := Lib.hid (show Below w.heap.size w _ by first | exact (Hid.out ‹Hid (Below w.heap.size w _)›).trans (hb1.mono (by omega)) | exact (Hid.out ‹Hid (Below w.heap.size w _)›).drew.trans (hb1.mono (Nat.le_of_lt (by assumption)))); clear hb1 g1 g2)
      | (go_at_call 58; refine (cross_any _ _ _ _ (by omega) (by omega) (by omega) _).mono ?_; rintro e w2 ⟨rfl, hb2⟩; obtain ⟨g1, g2, z2⟩ := step2 (b := w.heap.size) hb2 (by assumption); have G2 := (g1 0).trans (by assumption); have G3 := (g1 1).trans (by assumption); have HC := Lib.hid (show Below w.heap.size w _ by first | exact (Hid.out ‹Hid (Below w.heap.size w _)›).trans (hb2.mono (by omega)) | exact (Hid.out ‹Hid (Below w.heap.size w _)›).drew.trans (hb2.mono (Nat.le_of_lt (by assumption)))); clear hb2 g1 g2))
  generalize hA : Ang.mi (k - 1) * y - Ang.mq (k - 1) * x = A at *
  have hB : x * Ang.mq k - y * Ang.mi k = -(y * Ang.mi k - x * Ang.mq k) := by omega
  rw [hB]
  clear hB
  generalize hB : -(y * Ang.mi k - x * Ang.mq k) = B at *
  obtain ⟨A0, B0⟩ := hpos
  have A1 : A ≤ 40000000000000000 := by omega
  have B1 : B ≤ 40000000000000000 := by omega
  clear hA hB p1 p2 p3 p4
  have q0 : 0 ≤ 64 * A / (A + B) := Int.ediv_nonneg (by omega) (by omega)
  have q1 : 64 * A / (A + B) < 64 := Int.ediv_lt_of_lt_mul (by omega) (by omega)
  go_wp2_with fail
  have hz : (64 * k - 32 + 64 * A / (A + B) + 4096) % 4096 = Ang.fineF x y := by rw [HF.out]; omega
  rw [hz]
  go_ret2
  exact ⟨rfl, HC.out⟩
theorem Fine_y (x y : Int) (hy0 : y ≠ 0) (hx : -70368744177664 ≤ x ∧ x ≤ 70368744177664) (hy : -70368744177664 ≤ y ∧ y ≤ 70368744177664) (w : World) :
    Calls Try.prog 53 #[.agg #[.int .i64 x, .int .i64 y]] w fun e w' => e = .returned (.tuple #[.int .i64 (Ang.fineF x y), .int .i64 0]) ∧ Below w.heap.size w w' := by
  have h0 : (y == 0) = false := by simpa using hy0
  have hne : x ≠ 0 ∨ y ≠ 0 := Or.inr hy0
  have hsec := Ang.secF_is x y hne
  have k0 := hsec.1
  have k1 := hsec.2.1
  have hfab := Ang.fab hsec
  have hfe := Ang.fineF_eq hne
  have hfl : Ang.fl x y = 64 * Ang.fa x y / (Ang.fa x y + Ang.fb x y) := rfl
  rw [hfl, hfab.1, hfab.2.1] at hfe
  have hpos := hfab.2.2
  rw [hfab.1, hfab.2.1] at hpos
  unfold Ang.d at hfe hpos
  have HFE := Lib.hid hfe
  clear hsec hfab hfl hne hfe hy0
  generalize hk : Ang.secF x y = k at *
  have HK := Lib.hid hk
  clear hk
  have m := mi_bd k
  have p1 := mulbd (Ang.mi k) y 254 70368744177664 m.1 m.2.1 hy.1 hy.2
  have p2 := mulbd (Ang.mq k) x 254 70368744177664 m.2.2.1 m.2.2.2 hx.1 hx.2
  have m' := mi_bd (k - 1)
  have p3 := mulbd (Ang.mi (k - 1)) y 254 70368744177664 m'.1 m'.2.1 hy.1 hy.2
  have p4 := mulbd (Ang.mq (k - 1)) x 254 70368744177664 m'.2.2.1 m'.2.2.2 hx.1 hx.2
  have e1 := Int.mul_comm (Ang.mi k) y
  have e2 := Int.mul_comm (Ang.mq k) x
  rw [e1] at p1
  rw [e2] at p2
  rw [e1, e2] at hpos
  have hfe := HFE.out
  rw [e1, e2] at hfe
  have HF := Lib.hid hfe
  clear hfe HFE m m' e1 e2
  go_enter Try.func53, Try.ntmps53
  go_wp2_with fail
  refine (Sector_yes x y hx hy _).mono ?_
  rintro e w1 ⟨rfl, hb1⟩
  rw [HK.out]
  obtain ⟨g1, f1, z1⟩ := step2 (b := w.heap.size) hb1 (by simp)
  have c0 : w1.cell? ⟨w.heap.size, 0, none⟩ = some (.int .i64 x) := by rw [g1]; simp [go_sem]
  have c1 : w1.cell? ⟨w.heap.size, 1, none⟩ = some (.int .i64 y) := by rw [g1]; simp [go_sem]
  clear g1 f1
  have HB1 := ((Below.refl _ _).alloc (Nat.le_refl _) _).trans (hb1.mono (by simp))
  have hb0 := Lib.hid HB1
  clear HB1 hb1
  have w1' : IntKind.i64.wrap (k - 1) = k - 1 := IntWalk.i64_in _ (by omega)
  go_wp2_with fail
  go_region_held3 (fun w' => w'.cell? ⟨w.heap.size, 0, none⟩ = some (.int .i64 x) ∧ w'.cell? ⟨w.heap.size, 1, none⟩ = some (.int .i64 y)) (first | exact ⟨by assumption, by assumption⟩ | (simp [go_sem, *]; done))
    (first
      | (go_at_call 57; refine (boundary_any _ (by omega) (by omega) _).mono ?_; rintro e w1 ⟨rfl, hb1⟩; obtain ⟨g1, g2, z1⟩ := step2 (b := w.heap.size) hb1 (by assumption); have G0 := (g1 0).trans (by assumption); have G1 := (g1 1).trans (by assumption); have HC := Lib.hid (show Below w.heap.size w _ by first | exact (Hid.out ‹Hid (Below w.heap.size w _)›).trans (hb1.mono (by omega)) | exact (Hid.out ‹Hid (Below w.heap.size w _)›).drew.trans (hb1.mono (Nat.le_of_lt (by assumption)))); clear hb1 g1 g2)
      | (go_at_call 58; refine (cross_any _ _ _ _ (by omega) (by omega) (by omega) _).mono ?_; rintro e w2 ⟨rfl, hb2⟩; obtain ⟨g1, g2, z2⟩ := step2 (b := w.heap.size) hb2 (by assumption); have G2 := (g1 0).trans (by assumption); have G3 := (g1 1).trans (by assumption); have HC := Lib.hid (show Below w.heap.size w _ by first | exact (Hid.out ‹Hid (Below w.heap.size w _)›).trans (hb2.mono (by omega)) | exact (Hid.out ‹Hid (Below w.heap.size w _)›).drew.trans (hb2.mono (Nat.le_of_lt (by assumption)))); clear hb2 g1 g2))
  generalize hA : Ang.mi (k - 1) * y - Ang.mq (k - 1) * x = A at *
  have hB : x * Ang.mq k - y * Ang.mi k = -(y * Ang.mi k - x * Ang.mq k) := by omega
  rw [hB]
  clear hB
  generalize hB : -(y * Ang.mi k - x * Ang.mq k) = B at *
  obtain ⟨A0, B0⟩ := hpos
  have A1 : A ≤ 40000000000000000 := by omega
  have B1 : B ≤ 40000000000000000 := by omega
  clear hA hB p1 p2 p3 p4
  have q0 : 0 ≤ 64 * A / (A + B) := Int.ediv_nonneg (by omega) (by omega)
  have q1 : 64 * A / (A + B) < 64 := Int.ediv_lt_of_lt_mul (by omega) (by omega)
  go_wp2_with fail
  have hz : (64 * k - 32 + 64 * A / (A + B) + 4096) % 4096 = Ang.fineF x y := by rw [HF.out]; omega
  rw [hz]
  go_ret2
  exact ⟨rfl, HC.out⟩
theorem Fine_yes (x y : Int) (hx : -70368744177664 ≤ x ∧ x ≤ 70368744177664) (hy : -70368744177664 ≤ y ∧ y ≤ 70368744177664) (w : World) :
    Calls Try.prog 53 #[.agg #[.int .i64 x, .int .i64 y]] w fun e w' => e = .returned (.tuple #[.int .i64 (Ang.fineF x y), .int .i64 0]) ∧ Below w.heap.size w w' := by
  by_cases h : x ≠ 0
  · exact Fine_x x y h hx hy w
  by_cases h' : y ≠ 0
  · exact Fine_y x y h' hx hy w
  · have e1 : x = 0 := by omega
    have e2 : y = 0 := by omega
    subst e1 e2
    exact Fine_zero w
end Go.Proofs.Ytcaaecmbbbdopaa
namespace Go.Proofs.Ytcaaecmbbbdopaa
open Go.RowKit
theorem rwave_any (w : World) :
    Calls Try.prog 55 #[] w fun e w' => e = .returned (.slice (some ⟨w.heap.size, 0, none⟩) 17 17) ∧ w' = w.alloc (.cells wvA 3) := by
  go_enter Try.func55, Try.ntmps55
  go_wp2_with (refine wpList_buildFlat rfl 42 3 17 _ rfl .i64 Ang.wv Try.underlying22 (by as_aux_lemma => kernel_rfl) (by as_aux_lemma => kernel_rfl) rfl (by decide) (by decide) (by as_aux_lemma => kernel_rfl) ?_)
  go_ret
  exact ⟨rfl, rfl⟩
theorem rentry_any (k : Int) (w : World) :
    Calls Try.prog 51 #[.int .i64 k] w fun e w' => e = .returned (.agg #[.int .i64 (Ang.ti k), .int .i64 (Ang.tq k)]) ∧ Below w.heap.size w w' := by
  have e63 : bits .and .i64 k 63 = k % 64 := K.and63 k
  obtain ⟨m, hm⟩ : ∃ m : Int, m = k % 64 := ⟨_, rfl⟩
  have m0 : 0 ≤ m := by omega
  have m1 : m < 64 := by omega
  have et : Ang.ti k = Ang.ti m ∧ Ang.tq k = Ang.tq m := by
    unfold Ang.ti Ang.tq; rw [hm, show k % 64 % 64 = k % 64 from by omega]; exact ⟨rfl, rfl⟩
  rw [et.1, et.2]
  rw [← hm] at e63
  clear et hm
  obtain ⟨a, ha⟩ : ∃ a : Int, m % 16 = a := ⟨_, rfl⟩
  have i0 : 0 ≤ a := by omega
  have i1 : a < 16 := by omega
  have ia : a ≤ 16 := by omega
  have ib : a < 17 := by omega
  have tm : m.tmod 16 = a := by rw [Int.tmod_eq_emod_of_nonneg m0]; exact ha
  go_enter Try.func51, Try.ntmps51
  go_wp2_with fail
  refine (rwave_any _).mono ?_
  rintro e w1 ⟨rfl, rfl⟩
  go_wp2_with fail
  generalize hW : ((w.alloc (.cells #[.int .i64 0, .int .i64 0] 41)).alloc (.cells wvA 3)) = W
  have c1 : W.cell? ⟨w.heap.size + 1, a.toNat, none⟩ = some (.int .i64 (Ang.wv.getD a.toNat 0)) := by
    rw [← hW, ← wv_cell a.toNat (by omega)]; exact cell_of_row _ _ _ _ 3 (0, 0) (by simpa using heap_alloc_last (w.alloc (.cells #[.int .i64 0, .int .i64 0] 41)) (.cells wvA 3))
  have c2 : W.cell? ⟨w.heap.size + 1, (16 - a).toNat, none⟩ = some (.int .i64 (Ang.wv.getD (16 - a).toNat 0)) := by
    rw [← hW, ← wv_cell (16 - a).toNat (by omega)]; exact cell_of_row _ _ _ _ 3 (0, 0) (by simpa using heap_alloc_last (w.alloc (.cells #[.int .i64 0, .int .i64 0] 41)) (.cells wvA 3))
  have r0 : W.cell? ⟨w.heap.size, 0, none⟩ = some (.int .i64 0) := by rw [← hW]; simp [go_sem]
  have r1 : W.cell? ⟨w.heap.size, 1, none⟩ = some (.int .i64 0) := by rw [← hW]; simp [go_sem]
  have f0 : W.frozen? ⟨w.heap.size, 0, none⟩ = false := by rw [← hW]; simp [go_sem]
  have f1 : W.frozen? ⟨w.heap.size, 1, none⟩ = false := by rw [← hW]; simp [go_sem]
  have hs2 : W.heap.size = w.heap.size + 2 := by rw [← hW]; simp
  have hb : Below w.heap.size w W := by rw [← hW]; exact ((Below.refl _ _).alloc (Nat.le_refl _) _).alloc (by simp) _
  clear hW
  have hs : w.heap.size < W.heap.size := by omega
  have hs1 : w.heap.size + 1 < W.heap.size := by omega
  have HS2 := Lib.hid hs2
  clear hs2
  generalize hx : Ang.wv.getD a.toNat 0 = x at *
  generalize hy : Ang.wv.getD (16 - a).toNat 0 = y at *
  have bx : 0 ≤ x ∧ x ≤ 127 := by have := wv_bd a.toNat; rw [hx] at this; exact this
  have bY : 0 ≤ y ∧ y ≤ 127 := by have := wv_bd (16 - a).toNat; rw [hy] at this; exact this
  have HX := Lib.hid hx
  have HY := Lib.hid hy
  clear hx hy
  have w1 : IntKind.i64.wrap (16 - a) = 16 - a := IntWalk.i64_in _ (by omega)
  have i2 : 0 ≤ 16 - a := by omega
  have i3 : 16 - a < 17 := by omega
  go_region_held3 (fun w' => w'.cell? ⟨w.heap.size + 1, a.toNat, none⟩ = some (.int .i64 x) ∧ w'.cell? ⟨w.heap.size + 1, (16 - a).toNat, none⟩ = some (.int .i64 y)) (first | exact ⟨by assumption, by assumption⟩ | (simp [go_sem, *]; done) | go_keep)
    (first | fail)
  go_wp2_with fail
  have hrot := fun (j : Nat) => rotP_bd j x y (by omega) (by omega)
  have HR := Lib.hid hrot
  clear hrot
  have hfin := entry_rot m m0 m1
  rw [ha, HX.out, HY.out] at hfin
  have HF := Lib.hid hfin
  clear hfin
  go_loopw [0] (fun u wr => ∃ j : Nat, u = .int .i64 (m - 16 * j) ∧ 16 * (j : Int) ≤ m ∧ wr.cell? ⟨W.heap.size, 0, none⟩ = some (.int .i64 (rotP j (x, y)).1) ∧ wr.cell? ⟨W.heap.size, 1, none⟩ = some (.int .i64 (rotP j (x, y)).2) ∧ wr.frozen? ⟨W.heap.size, 0, none⟩ = false ∧ wr.frozen? ⟨W.heap.size, 1, none⟩ = false ∧ wr.cell? ⟨w.heap.size, 0, none⟩ = some (.int .i64 0) ∧ wr.cell? ⟨w.heap.size, 1, none⟩ = some (.int .i64 0) ∧ wr.frozen? ⟨w.heap.size, 0, none⟩ = false ∧ wr.frozen? ⟨w.heap.size, 1, none⟩ = false ∧ Below w.heap.size w wr) (fun u _ => (intOf u).toNat)
  case atStart => exact ⟨0, by go_num, by omega, by simp [rotP, go_sem], by simp [rotP, go_sem], by simp [go_sem], by simp [go_sem], by go_simp, by go_simp, by go_simp, by go_simp, (hb.alloc (by omega) _).drew⟩
  case round =>
    obtain ⟨j, rfl, jm, d0, d1, q0, q1, s0, s1, t0, t1, hbr⟩ := hrel
    obtain ⟨⟨b0, b1⟩, b2, b3⟩ := HR.out j
    have hne : W.heap.size ≠ w.heap.size := by omega
    by_cases hlt : 16 ≤ m - 16 * (j : Int)
    · go_wp2_with fail
      refine ⟨⟨j + 1, by go_num, by omega, by rw [rotP_succ]; go_simp, by rw [rotP_succ]; go_simp, by go_simp, by go_simp, by go_simp, by go_simp, by go_simp, by go_simp, ((hbr.setCell (by simp; omega) _).setCell (by simp; omega) _)⟩, by simp [intOf]; omega⟩
    · have hj : (m / 16).toNat = j := by omega
      have hf := HF.out
      rw [hj] at hf
      go_wp2_with fail
      simp [bodyPost, results, Try.results51, go_sem, s0, s1]
      exact ((hbr.setCell (by simp) _).setCell (by simp) _)
end Go.Proofs.Ytcaaecmbbbdopaa
namespace Go.Proofs.Ytcaaecmbbbdopaa
open Go.RowKit
def advF (p s n : Int) : Int := (p + s * n) % 4294967296
theorem ret_u32 {a b : Int} (h : a = b) : Ending.returned (.int .u32 a) = .returned (.int .u32 b) := by rw [h]
theorem adv1 (p s n : Int) : (p + s * (n % 4294967296) % 4294967296) % 4294967296 = advF p s n := by
  unfold advF
  rw [Int.mul_emod, Int.emod_emod_of_dvd n (Int.dvd_refl _), ← Int.mul_emod, Int.add_emod, Int.emod_emod_of_dvd _ (Int.dvd_refl _), ← Int.add_emod]
theorem rAdvance_any (p s n : Int) (w : World) :
    Calls Try.prog 43 #[.int .u32 p, .int .u32 s, .int .i64 n] w fun e w' => e = .returned (.int .u32 (advF p s n)) ∧ w = w' := by
  have h := adv1 p s n
  rw [Int.mul_comm s] at h
  have H := Lib.hid h
  clear h
  go_enter Try.func43, Try.ntmps43
  go_wp2_with fail
  go_ret
  exact ⟨ret_u32 H.out, rfl⟩
theorem rCarrier_any (p : Int) (h : 0 ≤ p) (h' : p < 4294967296) (w : World) :
    Calls Try.prog 42 #[.int .u32 p] w fun e w' => e = .returned (.agg #[.int .i64 (Ang.ti (p / 67108864)), .int .i64 (Ang.tq (p / 67108864))]) ∧ Below w.heap.size w w' := by
  go_enter Try.func42, Try.ntmps42
  go_wp2_with fail
  refine (rentry_any _ _).mono ?_
  rintro e w1 ⟨rfl, hb⟩
  obtain ⟨c1, f1, z1⟩ := step2 (b := w.heap.size) hb (by simp)
  have r0 := (c1 0).trans (show _ = some (.int .i64 0) by simp [go_sem])
  have r1 := (c1 1).trans (show _ = some (.int .i64 0) by simp [go_sem])
  have s0 := (f1 0).trans (show _ = false by simp [go_sem])
  have s1 := (f1 1).trans (show _ = false by simp [go_sem])
  have HB := Lib.hid (((Below.refl w.heap.size w).alloc (Nat.le_refl _) (.cells #[.int .i64 0, .int .i64 0] 41)).trans (hb.mono (by simp)))
  clear hb c1 f1
  go_wp2_with fail
  refine bodyPost_ret (v := .agg #[.int .i64 (Ang.ti (p / 67108864)), .int .i64 (Ang.tq (p / 67108864))]) (by simp [results, Try.results42, go_sem, r0, r1]) rfl ⟨rfl, ?_⟩
  exact (HB.out.setCell (Nat.le_refl _) _).setCell (Nat.le_refl _) _
end Go.Proofs.Ytcaaecmbbbdopaa
namespace Go.Proofs.Ytcaaecmbbbdopaa
open Go.RowKit
theorem full_any (t : Int) (h0 : -4096 ≤ t) (h1 : t ≤ 8192) (w : World) :
    Calls Try.prog 28 #[.int .i64 t] w fun e w' => e = .returned (.int .i64 ((t + 2048) % 4096 - 2048)) ∧ w = w' := by
  have e4 := K.and4095 (t + 2048)
  go_enter Try.func28, Try.ntmps28
  go_wp2
  go_ret
  exact ⟨rfl, rfl⟩
theorem half_any (t : Int) (h0 : -4096 ≤ t) (h1 : t ≤ 8192) (w : World) :
    Calls Try.prog 34 #[.int .i64 t] w fun e w' => e = .returned (.int .i64 ((t + 1024) % 2048 - 1024)) ∧ w = w' := by
  have e4 := K.and2047 (t + 1024)
  go_enter Try.func34, Try.ntmps34
  go_wp2
  go_ret
  exact ⟨rfl, rfl⟩
end Go.Proofs.Ytcaaecmbbbdopaa
namespace Go.Proofs.Ytcaaecmbbbdopaa
open Go.RowKit
def InB (p : Int × Int) : Prop := -1048576 ≤ p.1 ∧ p.1 ≤ 1048576 ∧ -1048576 ≤ p.2 ∧ p.2 ≤ 1048576
theorem inside_yes (b n : Nat) (l : Nat → Int × Int) (w : World) (hn : n ≤ 100) (hb : b < w.heap.size) (hc : ∀ i, i < n → w.cell? ⟨b, i * 2, none⟩ = some (.int .i64 (l i).1) ∧ w.cell? ⟨b, i * 2 + 1, none⟩ = some (.int .i64 (l i).2)) (hin : ∀ i, i < n → InB (l i)) :
    Calls Try.prog 29 #[.slice (some ⟨b, 0, none⟩) n n] w fun e w' => e = .returned (.bool true) ∧ Below w.heap.size w w' := by
  have HC := Lib.hid hc
  have HI := Lib.hid hin
  clear hc hin
  go_enter Try.func29, Try.ntmps29
  go_wp2_with fail
  go_loopw [7] (fun u wr => ∃ j : Nat, u = .int .i64 j ∧ j ≤ n ∧ Below w.heap.size w wr) (fun u _ => (n - intOf u).toNat)
  case atStart => exact ⟨0, by go_num, by omega, Below.refl _ _⟩
  case round =>
    obtain ⟨j, rfl, jn, hbr⟩ := hrel
    by_cases hlt : j < n
    · have d0 := (hbr.cell (p := ⟨b, j * 2, none⟩) hb).trans (HC.out j hlt).1
      have d1 := (hbr.cell (p := ⟨b, j * 2 + 1, none⟩) hb).trans (HC.out j hlt).2
      obtain ⟨b0, b1, b2, b3⟩ := HI.out j hlt
      generalize (l j).1 = x at *
      generalize (l j).2 = y at *
      have hz := hbr.size
      go_wp2_with fail
      all_goals exact ⟨⟨j + 1, by go_num, by omega, hbr.alloc (by omega) _⟩, by simp [intOf]; omega⟩
    · go_wp2_with fail
      go_ret
      exact ⟨rfl, hbr⟩
theorem inside_no (b n : Nat) (l : Nat → Int × Int) (w : World) (hn : n ≤ 100) (hb : b < w.heap.size) (hc : ∀ i, i < n → w.cell? ⟨b, i * 2, none⟩ = some (.int .i64 (l i).1) ∧ w.cell? ⟨b, i * 2 + 1, none⟩ = some (.int .i64 (l i).2)) (hin : ¬ ∀ i, i < n → InB (l i)) :
    Calls Try.prog 29 #[.slice (some ⟨b, 0, none⟩) n n] w fun e w' => e = .returned (.bool false) ∧ Below w.heap.size w w' := by
  have HC := Lib.hid hc
  have HI := Lib.hid hin
  clear hc hin
  go_enter Try.func29, Try.ntmps29
  go_wp2_with fail
  go_loopw [7] (fun u wr => ∃ j : Nat, u = .int .i64 j ∧ j ≤ n ∧ (∀ t, t < j → InB (l t)) ∧ Below w.heap.size w wr) (fun u _ => (n - intOf u).toNat)
  case atStart => exact ⟨0, by go_num, by omega, fun t h => absurd h (Nat.not_lt_zero _), Below.refl _ _⟩
  case round =>
    obtain ⟨j, rfl, jn, hall, hbr⟩ := hrel
    have HA := Lib.hid hall
    clear hall
    by_cases hlt : j < n
    · have d0 := (hbr.cell (p := ⟨b, j * 2, none⟩) hb).trans (HC.out j hlt).1
      have d1 := (hbr.cell (p := ⟨b, j * 2 + 1, none⟩) hb).trans (HC.out j hlt).2
      have hz := hbr.size
      by_cases hI : InB (l j)
      · have hall2 : ∀ t, t < j + 1 → InB (l t) := by
          intro t ht
          by_cases htj : t = j
          · subst htj; exact hI
          · exact HA.out t (by omega)
        have HA2 := Lib.hid hall2
        clear hall2
        obtain ⟨b0, b1, b2, b3⟩ := hI
        generalize (l j).1 = x at *
        generalize (l j).2 = y at *
        go_wp2_with fail
        all_goals exact ⟨⟨j + 1, by go_num, by omega, HA2.out, hbr.alloc (by omega) _⟩, by simp [intOf]; omega⟩
      · have hI4 : (l j).1 < -1048576 ∨ 1048576 < (l j).1 ∨ (l j).2 < -1048576 ∨ 1048576 < (l j).2 := by unfold InB at hI; omega
        clear hI
        generalize (l j).1 = x at *
        generalize (l j).2 = y at *
        rcases hI4 with h | h | h | h
        all_goals go_wp2_with fail
        all_goals go_ret
        all_goals exact ⟨rfl, hbr.alloc (by omega) _⟩
    · exact absurd (fun t ht => HA.out t (by omega)) HI.out
end Go.Proofs.Ytcaaecmbbbdopaa
namespace Go.Proofs.Ytcaaecmbbbdopaa
open Go.RowKit
def fullF (t : Int) : Int := (t + 2048) % 4096 - 2048
def halfF (t : Int) : Int := (t + 1024) % 2048 - 1024
theorem measured_any (g : Nat) (w : World) :
    Calls Try.prog 45 #[.func (.func g) #[] #[]] w fun e w' => e = .returned (.func (.func 52) #[] #[.pointer (some ⟨w.heap.size, 0, none⟩)]) ∧ w' = w.alloc (.cells #[.func (.func g) #[] #[]] 62) := by
  go_enter Try.func45, Try.ntmps45
  go_wp2_with fail
  go_ret
  exact ⟨rfl, rfl⟩
theorem checked_any (g : Nat) (cap : Array Value) (w : World) :
    Calls Try.prog 46 #[.func (.func g) #[] cap] w fun e w' => e = .returned (.func (.func 54) #[] #[.pointer (some ⟨w.heap.size, 0, none⟩)]) ∧ w' = w.alloc (.cells #[.func (.func g) #[] cap] 66) := by
  go_enter Try.func46, Try.ntmps46
  go_wp2_with fail
  go_ret
  exact ⟨rfl, rfl⟩
theorem in1 {b : Nat} {x y : Int} {w : World} (c0 : w.cell? ⟨b, 0, none⟩ = some (.int .i64 x)) (c1 : w.cell? ⟨b, 1, none⟩ = some (.int .i64 y)) : ∀ i, i < 1 → w.cell? ⟨b, i * 2, none⟩ = some (.int .i64 ((fun _ => (x, y)) i : Int × Int).1) ∧ w.cell? ⟨b, i * 2 + 1, none⟩ = some (.int .i64 ((fun _ => (x, y)) i : Int × Int).2) := by
  intro i h
  obtain rfl : i = 0 := by omega
  exact ⟨c0, c1⟩
theorem measured1_full (b : Nat) (x y : Int) (w : World) (hbs : b < w.heap.size) (c0 : w.cell? ⟨b, 0, none⟩ = some (.func (.func 28) #[] #[])) (hx : -70368744177664 ≤ x ∧ x ≤ 70368744177664) (hy : -70368744177664 ≤ y ∧ y ≤ 70368744177664) :
    Calls Try.prog 52 #[.agg #[.int .i64 x, .int .i64 y], .pointer (some ⟨b, 0, none⟩)] w fun e w' => e = .returned (.int .i64 (fullF (Ang.fineF x y))) ∧ Below w.heap.size w w' := by
  have hf := Ang.fineF_bd x y
  unfold fullF
  have hne : b ≠ w.heap.size := by omega
  go_enter Try.func52, Try.ntmps52
  go_wp2_with fail
  refine (Fine_yes x y hx hy _).mono ?_
  rintro e w1 ⟨rfl, hb1⟩
  obtain ⟨g1, g2, z1⟩ := step2 (b := b) hb1 (by simp; omega)
  have d0 : w1.cell? ⟨b, 0, none⟩ = some (.func (.func 28) #[] #[]) := by rw [g1]; go_simp
  clear g1 g2
  go_wp2_with fail
  refine (full_any _ (by omega) (by omega) _).mono ?_
  rintro e w2 ⟨rfl, rfl⟩
  go_wp2_with fail
  go_ret
  exact ⟨rfl, ((Below.refl _ _).alloc (Nat.le_refl _) _).trans (hb1.mono (by simp))⟩
theorem checked1_full_yes (b c : Nat) (x y : Int) (w : World) (hbs : b < w.heap.size) (hcs : c < w.heap.size) (c0 : w.cell? ⟨b, 0, none⟩ = some (.func (.func 28) #[] #[])) (k0 : w.cell? ⟨c, 0, none⟩ = some (.func (.func 52) #[] #[.pointer (some ⟨b, 0, none⟩)])) (hin : InB (x, y)) :
    Calls Try.prog 54 #[.agg #[.int .i64 x, .int .i64 y], .pointer (some ⟨c, 0, none⟩)] w fun e w' => e = .returned (.tuple #[.int .i64 (fullF (Ang.fineF x y)), .int .i64 0]) ∧ Below w.heap.size w w' := by
  obtain ⟨x0, x1, y0, y1⟩ := id hin
  have HIN := Lib.hid hin
  clear hin
  go_enter Try.func54, Try.ntmps54
  go_wp2_with fail
  refine (inside_yes (w.heap.size + 1) 1 (fun _ => (x, y)) _ (by omega) (by simp) (in1 (by simp [go_sem]) (by simp [go_sem])) (fun _ _ => HIN.out)).mono ?_
  rintro e w1 ⟨rfl, hb1⟩
  have hB := (((Below.refl w.heap.size w).alloc (Nat.le_refl _) (.cells #[.int .i64 x, .int .i64 y] 41)).alloc (by simp) (.cells #[.int .i64 x, .int .i64 y] 41)).trans (hb1.mono (by simp; omega))
  have d0 := (hB.cell (p := ⟨b, 0, none⟩) hbs).trans c0
  have d1 := (hB.cell (p := ⟨c, 0, none⟩) hcs).trans k0
  have z1 : b < w1.heap.size := Nat.lt_of_lt_of_le hbs hB.size
  obtain ⟨g5, g6, z3⟩ := step2 (b := w.heap.size) hb1 (by simp; omega)
  have d2 : w1.cell? ⟨w.heap.size, 0, none⟩ = some (.int .i64 x) := by rw [g5]; simp [go_sem]
  have d3 : w1.cell? ⟨w.heap.size, 1, none⟩ = some (.int .i64 y) := by rw [g5]; simp [go_sem]
  clear g5 g6
  have HBB := Lib.hid hB
  clear hB
  go_wp2_with fail
  refine (measured1_full b x y _ z1 d0 (by omega) (by omega)).mono ?_
  rintro e w2 ⟨rfl, hb2⟩
  go_wp2_with fail
  go_ret2
  exact ⟨rfl, HBB.out.trans (hb2.mono (by omega))⟩
theorem measured1_half (b : Nat) (x y : Int) (w : World) (hbs : b < w.heap.size) (c0 : w.cell? ⟨b, 0, none⟩ = some (.func (.func 34) #[] #[])) (hx : -70368744177664 ≤ x ∧ x ≤ 70368744177664) (hy : -70368744177664 ≤ y ∧ y ≤ 70368744177664) :
    Calls Try.prog 52 #[.agg #[.int .i64 x, .int .i64 y], .pointer (some ⟨b, 0, none⟩)] w fun e w' => e = .returned (.int .i64 (halfF (Ang.fineF x y))) ∧ Below w.heap.size w w' := by
  have hf := Ang.fineF_bd x y
  unfold halfF
  have hne : b ≠ w.heap.size := by omega
  go_enter Try.func52, Try.ntmps52
  go_wp2_with fail
  refine (Fine_yes x y hx hy _).mono ?_
  rintro e w1 ⟨rfl, hb1⟩
  obtain ⟨g1, g2, z1⟩ := step2 (b := b) hb1 (by simp; omega)
  have d0 : w1.cell? ⟨b, 0, none⟩ = some (.func (.func 34) #[] #[]) := by rw [g1]; go_simp
  clear g1 g2
  go_wp2_with fail
  refine (half_any _ (by omega) (by omega) _).mono ?_
  rintro e w2 ⟨rfl, rfl⟩
  go_wp2_with fail
  go_ret
  exact ⟨rfl, ((Below.refl _ _).alloc (Nat.le_refl _) _).trans (hb1.mono (by simp))⟩
theorem checked1_half_yes (b c : Nat) (x y : Int) (w : World) (hbs : b < w.heap.size) (hcs : c < w.heap.size) (c0 : w.cell? ⟨b, 0, none⟩ = some (.func (.func 34) #[] #[])) (k0 : w.cell? ⟨c, 0, none⟩ = some (.func (.func 52) #[] #[.pointer (some ⟨b, 0, none⟩)])) (hin : InB (x, y)) :
    Calls Try.prog 54 #[.agg #[.int .i64 x, .int .i64 y], .pointer (some ⟨c, 0, none⟩)] w fun e w' => e = .returned (.tuple #[.int .i64 (halfF (Ang.fineF x y)), .int .i64 0]) ∧ Below w.heap.size w w' := by
  obtain ⟨x0, x1, y0, y1⟩ := id hin
  have HIN := Lib.hid hin
  clear hin
  go_enter Try.func54, Try.ntmps54
  go_wp2_with fail
  refine (inside_yes (w.heap.size + 1) 1 (fun _ => (x, y)) _ (by omega) (by simp) (in1 (by simp [go_sem]) (by simp [go_sem])) (fun _ _ => HIN.out)).mono ?_
  rintro e w1 ⟨rfl, hb1⟩
  have hB := (((Below.refl w.heap.size w).alloc (Nat.le_refl _) (.cells #[.int .i64 x, .int .i64 y] 41)).alloc (by simp) (.cells #[.int .i64 x, .int .i64 y] 41)).trans (hb1.mono (by simp; omega))
  have d0 := (hB.cell (p := ⟨b, 0, none⟩) hbs).trans c0
  have d1 := (hB.cell (p := ⟨c, 0, none⟩) hcs).trans k0
  have z1 : b < w1.heap.size := Nat.lt_of_lt_of_le hbs hB.size
  obtain ⟨g5, g6, z3⟩ := step2 (b := w.heap.size) hb1 (by simp; omega)
  have d2 : w1.cell? ⟨w.heap.size, 0, none⟩ = some (.int .i64 x) := by rw [g5]; simp [go_sem]
  have d3 : w1.cell? ⟨w.heap.size, 1, none⟩ = some (.int .i64 y) := by rw [g5]; simp [go_sem]
  clear g5 g6
  have HBB := Lib.hid hB
  clear hB
  go_wp2_with fail
  refine (measured1_half b x y _ z1 d0 (by omega) (by omega)).mono ?_
  rintro e w2 ⟨rfl, hb2⟩
  go_wp2_with fail
  go_ret2
  exact ⟨rfl, HBB.out.trans (hb2.mono (by omega))⟩
theorem checked1_full_no (c : Nat) (x y : Int) (w : World) (hin : ¬ InB (x, y)) :
    Calls Try.prog 54 #[.agg #[.int .i64 x, .int .i64 y], .pointer (some ⟨c, 0, none⟩)] w fun e w' => e = .returned (.tuple #[.int .i64 0, .int .i64 2]) ∧ Below w.heap.size w w' := by
  have HIN := Lib.hid hin
  clear hin
  go_enter Try.func54, Try.ntmps54
  go_wp2_with fail
  refine (inside_no (w.heap.size + 1) 1 (fun _ => (x, y)) _ (by omega) (by simp) (in1 (by simp [go_sem]) (by simp [go_sem])) (fun h => HIN.out (h 0 (by omega)))).mono ?_
  rintro e w1 ⟨rfl, hb1⟩
  have hB := (((Below.refl w.heap.size w).alloc (Nat.le_refl _) (.cells #[.int .i64 x, .int .i64 y] 41)).alloc (by simp) (.cells #[.int .i64 x, .int .i64 y] 41)).trans (hb1.mono (by simp; omega))
  have HBB := Lib.hid hB
  clear hB
  go_wp2_with fail
  go_ret2
  exact ⟨rfl, HBB.out⟩
theorem Full_yes (x y : Int) (w : World) (hin : InB (x, y)) :
    Calls Try.prog 32 #[.agg #[.int .i64 x, .int .i64 y]] w fun e w' => e = .returned (.tuple #[.int .i64 (fullF (Ang.fineF x y)), .int .i64 0]) ∧ Below w.heap.size w w' := by
  have HIN := Lib.hid hin
  clear hin
  go_enter Try.func32, Try.ntmps32
  go_wp2_with fail
  go_region_held3 (fun w' => w'.cell? ⟨w.heap.size, 0, none⟩ = some (.int .i64 x) ∧ w'.cell? ⟨w.heap.size, 1, none⟩ = some (.int .i64 y)) (first | exact ⟨by assumption, by assumption⟩ | (simp [go_sem, *]; done))
    (first
      | (go_at_call 45; refine (measured_any _ _).mono ?_; rintro e w1 ⟨rfl, rfl⟩)
      | (go_at_call 46; refine (checked_any _ _ _).mono ?_; rintro e w1 ⟨rfl, rfl⟩)
      | (go_at_call 54; refine (checked1_full_yes (w.heap.size + 1) (w.heap.size + 1 + 1) x y _ (by simp) (by simp) (by simp [go_sem]) (by simp [go_sem]) HIN.out).mono ?_; rintro e w2 ⟨rfl, hb2⟩; have G0 := (hb2.cell (p := ⟨w.heap.size, 0, none⟩) (by simp; omega)).trans (show _ = some (.int .i64 x) by simp [go_sem]); have G1 := (hb2.cell (p := ⟨w.heap.size, 1, none⟩) (by simp; omega)).trans (show _ = some (.int .i64 y) by simp [go_sem]); have HC := Lib.hid (((((Below.refl w.heap.size w).alloc (Nat.le_refl _) (.cells #[.int .i64 x, .int .i64 y] 41)).alloc (by simp) (.cells #[.func (.func 28) #[] #[]] 62)).alloc (by simp; omega) (.cells #[.func (.func 52) #[] #[.pointer (some ⟨w.heap.size + 1, 0, none⟩)]] 66)).drew.trans (hb2.mono (by simp; omega))); clear hb2))
  go_wp2_with fail
  go_ret2
  exact ⟨rfl, HC.out⟩
theorem Full_no (x y : Int) (w : World) (hin : ¬ InB (x, y)) :
    Calls Try.prog 32 #[.agg #[.int .i64 x, .int .i64 y]] w fun e w' => e = .returned (.tuple #[.int .i64 0, .int .i64 2]) ∧ Below w.heap.size w w' := by
  have HIN := Lib.hid hin
  clear hin
  go_enter Try.func32, Try.ntmps32
  go_wp2_with fail
  go_region_held3 (fun w' => w'.cell? ⟨w.heap.size, 0, none⟩ = some (.int .i64 x) ∧ w'.cell? ⟨w.heap.size, 1, none⟩ = some (.int .i64 y)) (first | exact ⟨by assumption, by assumption⟩ | (simp [go_sem, *]; done))
    (first
      | (go_at_call 45; refine (measured_any _ _).mono ?_; rintro e w1 ⟨rfl, rfl⟩)
      | (go_at_call 46; refine (checked_any _ _ _).mono ?_; rintro e w1 ⟨rfl, rfl⟩)
      | (go_at_call 54; refine (checked1_full_no _ x y _ HIN.out).mono ?_; rintro e w2 ⟨rfl, hb2⟩; have G0 := (hb2.cell (p := ⟨w.heap.size, 0, none⟩) (by simp; omega)).trans (show _ = some (.int .i64 x) by simp [go_sem]); have G1 := (hb2.cell (p := ⟨w.heap.size, 1, none⟩) (by simp; omega)).trans (show _ = some (.int .i64 y) by simp [go_sem]); have HC := Lib.hid (((((Below.refl w.heap.size w).alloc (Nat.le_refl _) (.cells #[.int .i64 x, .int .i64 y] 41)).alloc (by simp) (.cells #[.func (.func 28) #[] #[]] 62)).alloc (by simp; omega) (.cells #[.func (.func 52) #[] #[.pointer (some ⟨w.heap.size + 1, 0, none⟩)]] 66)).drew.trans (hb2.mono (by simp; omega))); clear hb2))
  go_wp2_with fail
  go_ret2
  exact ⟨rfl, HC.out⟩
theorem Half_yes (x y : Int) (w : World) (hin : InB (x, y)) :
    Calls Try.prog 33 #[.agg #[.int .i64 x, .int .i64 y]] w fun e w' => e = .returned (.tuple #[.int .i64 (halfF (Ang.fineF x y)), .int .i64 0]) ∧ Below w.heap.size w w' := by
  have HIN := Lib.hid hin
  clear hin
  go_enter Try.func33, Try.ntmps33
  go_wp2_with fail
  go_region_held3 (fun w' => w'.cell? ⟨w.heap.size, 0, none⟩ = some (.int .i64 x) ∧ w'.cell? ⟨w.heap.size, 1, none⟩ = some (.int .i64 y)) (first | exact ⟨by assumption, by assumption⟩ | (simp [go_sem, *]; done))
    (first
      | (go_at_call 45; refine (measured_any _ _).mono ?_; rintro e w1 ⟨rfl, rfl⟩)
      | (go_at_call 46; refine (checked_any _ _ _).mono ?_; rintro e w1 ⟨rfl, rfl⟩)
      | (go_at_call 54; refine (checked1_half_yes (w.heap.size + 1) (w.heap.size + 1 + 1) x y _ (by simp) (by simp) (by simp [go_sem]) (by simp [go_sem]) HIN.out).mono ?_; rintro e w2 ⟨rfl, hb2⟩; have G0 := (hb2.cell (p := ⟨w.heap.size, 0, none⟩) (by simp; omega)).trans (show _ = some (.int .i64 x) by simp [go_sem]); have G1 := (hb2.cell (p := ⟨w.heap.size, 1, none⟩) (by simp; omega)).trans (show _ = some (.int .i64 y) by simp [go_sem]); have HC := Lib.hid (((((Below.refl w.heap.size w).alloc (Nat.le_refl _) (.cells #[.int .i64 x, .int .i64 y] 41)).alloc (by simp) (.cells #[.func (.func 34) #[] #[]] 62)).alloc (by simp; omega) (.cells #[.func (.func 52) #[] #[.pointer (some ⟨w.heap.size + 1, 0, none⟩)]] 66)).drew.trans (hb2.mono (by simp; omega))); clear hb2))
  go_wp2_with fail
  go_ret2
  exact ⟨rfl, HC.out⟩
theorem Half_no (x y : Int) (w : World) (hin : ¬ InB (x, y)) :
    Calls Try.prog 33 #[.agg #[.int .i64 x, .int .i64 y]] w fun e w' => e = .returned (.tuple #[.int .i64 0, .int .i64 2]) ∧ Below w.heap.size w w' := by
  have HIN := Lib.hid hin
  clear hin
  go_enter Try.func33, Try.ntmps33
  go_wp2_with fail
  go_region_held3 (fun w' => w'.cell? ⟨w.heap.size, 0, none⟩ = some (.int .i64 x) ∧ w'.cell? ⟨w.heap.size, 1, none⟩ = some (.int .i64 y)) (first | exact ⟨by assumption, by assumption⟩ | (simp [go_sem, *]; done))
    (first
      | (go_at_call 45; refine (measured_any _ _).mono ?_; rintro e w1 ⟨rfl, rfl⟩)
      | (go_at_call 46; refine (checked_any _ _ _).mono ?_; rintro e w1 ⟨rfl, rfl⟩)
      | (go_at_call 54; refine (checked1_full_no _ x y _ HIN.out).mono ?_; rintro e w2 ⟨rfl, hb2⟩; have G0 := (hb2.cell (p := ⟨w.heap.size, 0, none⟩) (by simp; omega)).trans (show _ = some (.int .i64 x) by simp [go_sem]); have G1 := (hb2.cell (p := ⟨w.heap.size, 1, none⟩) (by simp; omega)).trans (show _ = some (.int .i64 y) by simp [go_sem]); have HC := Lib.hid (((((Below.refl w.heap.size w).alloc (Nat.le_refl _) (.cells #[.int .i64 x, .int .i64 y] 41)).alloc (by simp) (.cells #[.func (.func 34) #[] #[]] 62)).alloc (by simp; omega) (.cells #[.func (.func 52) #[] #[.pointer (some ⟨w.heap.size + 1, 0, none⟩)]] 66)).drew.trans (hb2.mono (by simp; omega))); clear hb2))
  go_wp2_with fail
  go_ret2
  exact ⟨rfl, HC.out⟩
end Go.Proofs.Ytcaaecmbbbdopaa
namespace Go.Proofs.Ytcaaecmbbbdopaa
open Go.RowKit
theorem sq_bd (x : Int) (h0 : -1048576 ≤ x) (h1 : x ≤ 1048576) : 0 ≤ x * x ∧ x * x ≤ 1099511627776 := by
  have a := Int.mul_nonneg (show 0 ≤ 1048576 - x by omega) (show 0 ≤ 1048576 + x by omega)
  have b : (1048576 - x) * (1048576 + x) = 1099511627776 - x * x := by grind
  have c : 0 ≤ x * x := by
    rcases Int.le_total 0 x with h | h
    · exact Int.mul_nonneg h h
    · exact Int.mul_nonneg_of_nonpos_of_nonpos h h
  omega
theorem power_any (x y : Int) (hin : InB (x, y)) (w : World) :
    Calls Try.prog 30 #[.agg #[.int .i64 x, .int .i64 y]] w fun e w' => e = .returned (.int .i64 (x * x + y * y)) ∧ Below w.heap.size w w' := by
  obtain ⟨x0, x1, y0, y1⟩ := hin
  have ⟨a0, a1⟩ := sq_bd x x0 x1
  have ⟨b0, b1⟩ := sq_bd y y0 y1
  go_enter Try.func30, Try.ntmps30
  go_wp2
  go_ret
  exact ⟨rfl, (Below.refl _ _).alloc (Nat.le_refl _) _⟩
def shareF (a b : Int) : Int := if b = 0 then 0 else if a < 0 then -((2048 * (-a) + b) / (2 * b)) else (2048 * a + b) / (2 * b)
theorem share_pos (a b : Int) (ha : 0 ≤ a) (hab : a ≤ b) (hb : b ≤ 4398046511104) (w : World) :
    Calls Try.prog 31 #[.int .i64 a, .int .i64 b] w fun e w' => e = .returned (.int .i64 (shareF a b)) ∧ w = w' := by
  by_cases h : b = 0
  · subst h
    go_enter Try.func31, Try.ntmps31
    go_wp2_with fail
    go_ret
    exact ⟨ret_int (by simp [shareF]), rfl⟩
  · have h0 : (b == 0) = false := by simpa using h
    have h1 : decide (a < 0) = false := by simp; omega
    go_enter Try.func31, Try.ntmps31
    go_wp2_with fail
    go_ret
    exact ⟨ret_int (by simp [shareF, h, show ¬ a < 0 from by omega]), rfl⟩
theorem shareF_bd (a b : Int) (ha : 0 ≤ a) (hab : a ≤ b) : 0 ≤ shareF a b ∧ shareF a b ≤ 1024 := by
  unfold shareF
  by_cases h : b = 0
  · rw [if_pos h]; omega
  · rw [if_neg h, if_neg (by omega)]
    refine ⟨Int.ediv_nonneg (by omega) (by omega), ?_⟩
    have := Int.ediv_lt_of_lt_mul (a := 2048 * a + b) (b := 1025) (c := 2 * b) (by omega) (by omega)
    omega
theorem shareF_neg (a b : Int) (hb : 0 < b) (ha : a < 0) : shareF a b = - shareF (-a) b := by
  unfold shareF
  rw [if_neg (by omega), if_pos ha, if_neg (by omega), if_neg (by omega)]
theorem share_any (a b : Int) (ha : -b ≤ a) (hab : a ≤ b) (hb : b ≤ 4398046511104) (w : World) :
    Calls Try.prog 31 #[.int .i64 a, .int .i64 b] w fun e w' => e = .returned (.int .i64 (shareF a b)) ∧ w = w' := by
  by_cases h : 0 ≤ a
  · exact share_pos a b h hab hb w
  · have h0 : (b == 0) = false := by simp; omega
    have h1 : decide (a < 0) = true := by simp; omega
    have bd := shareF_bd (-a) b (by omega) (by omega)
    have hn := shareF_neg a b (by omega) (by omega)
    have HN := Lib.hid hn
    clear hn
    go_enter Try.func31, Try.ntmps31
    go_wp2_with (go_at_call 31; refine (share_pos (-a) b (by omega) (by omega) (by omega) _).mono ?_; rintro e w' ⟨rfl, rfl⟩)
    go_ret
    exact ⟨ret_int HN.out.symm, rfl⟩
theorem Lock1_any (x y : Int) (w : World) (hin : InB (x, y)) :
    Calls Try.prog 47 #[.agg #[.int .i64 x, .int .i64 y]] w fun e w' => e = .returned (.int .i64 (shareF (x * x - y * y) (x * x + y * y))) ∧ Below w.heap.size w w' := by
  have HIN := Lib.hid hin
  obtain ⟨x0, x1, y0, y1⟩ := hin
  have ⟨a0, a1⟩ := sq_bd x x0 x1
  have ⟨b0, b1⟩ := sq_bd y y0 y1
  have q1 : IntKind.i64.wrap (x * x) = x * x := IntWalk.i64_in _ (by omega)
  have q2 : IntKind.i64.wrap (y * y) = y * y := IntWalk.i64_in _ (by omega)
  have q3 : IntKind.i64.wrap (x * x - y * y) = x * x - y * y := IntWalk.i64_in _ (by omega)
  go_enter Try.func47, Try.ntmps47
  go_wp2_with fail
  go_region_held3 (fun w' => w'.cell? ⟨w.heap.size, 0, none⟩ = some (.int .i64 x) ∧ w'.cell? ⟨w.heap.size, 1, none⟩ = some (.int .i64 y)) (first | exact ⟨by assumption, by assumption⟩ | (simp [go_sem, *]; done))
    (first
      | (go_at_call 30; refine (power_any _ _ HIN.out _).mono ?_; rintro e w1 ⟨rfl, hb1⟩; have G0 := (hb1.cell (p := ⟨w.heap.size, 0, none⟩) (by simp)).trans (show _ = some (.int .i64 x) by simp [go_sem]); have G1 := (hb1.cell (p := ⟨w.heap.size, 1, none⟩) (by simp)).trans (show _ = some (.int .i64 y) by simp [go_sem]); have HC := Lib.hid (((Below.refl w.heap.size w).alloc (Nat.le_refl _) (.cells #[.int .i64 x, .int .i64 y] 41)).drew.trans (hb1.mono (by simp))); clear hb1)
      | (go_at_call 31; refine (share_any _ _ (by omega) (by omega) (by omega) _).mono ?_; rintro e w1 ⟨rfl, rfl⟩))
  go_wp2_with fail
  go_ret
  exact ⟨rfl, HC.out⟩
end Go.Proofs.Ytcaaecmbbbdopaa
namespace Go.Proofs.Ytcaaecmbbbdopaa
open Go.RowKit
theorem checked1_lock_yes (c : Nat) (x y : Int) (w : World) (hcs : c < w.heap.size) (k0 : w.cell? ⟨c, 0, none⟩ = some (.func (.func 47) #[] #[])) (hin : InB (x, y)) :
    Calls Try.prog 54 #[.agg #[.int .i64 x, .int .i64 y], .pointer (some ⟨c, 0, none⟩)] w fun e w' => e = .returned (.tuple #[.int .i64 (shareF (x * x - y * y) (x * x + y * y)), .int .i64 0]) ∧ Below w.heap.size w w' := by
  have HIN := Lib.hid hin
  clear hin
  go_enter Try.func54, Try.ntmps54
  go_wp2_with fail
  refine (inside_yes (w.heap.size + 1) 1 (fun _ => (x, y)) _ (by omega) (by simp) (in1 (by simp [go_sem]) (by simp [go_sem])) (fun _ _ => HIN.out)).mono ?_
  rintro e w1 ⟨rfl, hb1⟩
  have hB := (((Below.refl w.heap.size w).alloc (Nat.le_refl _) (.cells #[.int .i64 x, .int .i64 y] 41)).alloc (by simp) (.cells #[.int .i64 x, .int .i64 y] 41)).trans (hb1.mono (by simp; omega))
  have d1 := (hB.cell (p := ⟨c, 0, none⟩) hcs).trans k0
  have z1 := hB.size
  have d2 := (hb1.cell (p := ⟨w.heap.size, 0, none⟩) (by simp; omega)).trans (show _ = some (.int .i64 x) by simp [go_sem])
  have d3 := (hb1.cell (p := ⟨w.heap.size, 1, none⟩) (by simp; omega)).trans (show _ = some (.int .i64 y) by simp [go_sem])
  have HBB := Lib.hid hB
  clear hB hb1
  go_wp2_with fail
  refine (Lock1_any x y _ HIN.out).mono ?_
  rintro e w2 ⟨rfl, hb2⟩
  go_wp2_with fail
  go_ret2
  exact ⟨rfl, HBB.out.trans (hb2.mono (by omega))⟩
theorem Lock_yes (x y : Int) (w : World) (hin : InB (x, y)) :
    Calls Try.prog 35 #[.agg #[.int .i64 x, .int .i64 y]] w fun e w' => e = .returned (.tuple #[.int .i64 (shareF (x * x - y * y) (x * x + y * y)), .int .i64 0]) ∧ Below w.heap.size w w' := by
  have HIN := Lib.hid hin
  clear hin
  go_enter Try.func35, Try.ntmps35
  go_wp2_with fail
  go_region_held3 (fun w' => w'.cell? ⟨w.heap.size, 0, none⟩ = some (.int .i64 x) ∧ w'.cell? ⟨w.heap.size, 1, none⟩ = some (.int .i64 y)) (first | exact ⟨by assumption, by assumption⟩ | (simp [go_sem, *]; done))
    (first
      | (go_at_call 46; refine (checked_any _ _ _).mono ?_; rintro e w1 ⟨rfl, rfl⟩)
      | (go_at_call 54; refine (checked1_lock_yes (w.heap.size + 1) x y _ (by simp) (by simp [go_sem]) HIN.out).mono ?_; rintro e w2 ⟨rfl, hb2⟩; have G0 := (hb2.cell (p := ⟨w.heap.size, 0, none⟩) (by simp; omega)).trans (show _ = some (.int .i64 x) by simp [go_sem]); have G1 := (hb2.cell (p := ⟨w.heap.size, 1, none⟩) (by simp; omega)).trans (show _ = some (.int .i64 y) by simp [go_sem]); have HC := Lib.hid ((((Below.refl w.heap.size w).alloc (Nat.le_refl _) (.cells #[.int .i64 x, .int .i64 y] 41)).alloc (by simp) (.cells #[.func (.func 47) #[] #[]] 66)).drew.trans (hb2.mono (by simp; omega))); clear hb2))
  go_wp2_with fail
  go_ret2
  exact ⟨rfl, HC.out⟩
theorem Lock_no (x y : Int) (w : World) (hin : ¬ InB (x, y)) :
    Calls Try.prog 35 #[.agg #[.int .i64 x, .int .i64 y]] w fun e w' => e = .returned (.tuple #[.int .i64 0, .int .i64 2]) ∧ Below w.heap.size w w' := by
  have HIN := Lib.hid hin
  clear hin
  go_enter Try.func35, Try.ntmps35
  go_wp2_with fail
  go_region_held3 (fun w' => w'.cell? ⟨w.heap.size, 0, none⟩ = some (.int .i64 x) ∧ w'.cell? ⟨w.heap.size, 1, none⟩ = some (.int .i64 y)) (first | exact ⟨by assumption, by assumption⟩ | (simp [go_sem, *]; done))
    (first
      | (go_at_call 46; refine (checked_any _ _ _).mono ?_; rintro e w1 ⟨rfl, rfl⟩)
      | (go_at_call 54; refine (checked1_full_no _ x y _ HIN.out).mono ?_; rintro e w2 ⟨rfl, hb2⟩; have G0 := (hb2.cell (p := ⟨w.heap.size, 0, none⟩) (by simp; omega)).trans (show _ = some (.int .i64 x) by simp [go_sem]); have G1 := (hb2.cell (p := ⟨w.heap.size, 1, none⟩) (by simp; omega)).trans (show _ = some (.int .i64 y) by simp [go_sem]); have HC := Lib.hid ((((Below.refl w.heap.size w).alloc (Nat.le_refl _) (.cells #[.int .i64 x, .int .i64 y] 41)).alloc (by simp) (.cells #[.func (.func 47) #[] #[]] 66)).drew.trans (hb2.mono (by simp; omega))); clear hb2))
  go_wp2_with fail
  go_ret2
  exact ⟨rfl, HC.out⟩
theorem in2 {b : Nat} {x y u v : Int} {w : World} (c0 : w.cell? ⟨b, 0, none⟩ = some (.int .i64 x)) (c1 : w.cell? ⟨b, 1, none⟩ = some (.int .i64 y)) (c2 : w.cell? ⟨b, 2, none⟩ = some (.int .i64 u)) (c3 : w.cell? ⟨b, 3, none⟩ = some (.int .i64 v)) : ∀ i, i < 2 → w.cell? ⟨b, i * 2, none⟩ = some (.int .i64 ((fun i => if i = 0 then (x, y) else (u, v)) i : Int × Int).1) ∧ w.cell? ⟨b, i * 2 + 1, none⟩ = some (.int .i64 ((fun i => if i = 0 then (x, y) else (u, v)) i : Int × Int).2) := by
  intro i h
  match i, h with
  | 0, _ => exact ⟨c0, c1⟩
  | 1, _ => exact ⟨c2, c3⟩
theorem cross_bd (x y : Int) (h : -1048576 ≤ x ∧ x ≤ 1048576) (h' : -1048576 ≤ y ∧ y ≤ 1048576) : -1099511627776 ≤ x * y ∧ x * y ≤ 1099511627776 := mulbd x y 1048576 1048576 h.1 h.2 h'.1 h'.2
theorem Turn_yes (a b c d : Int) (w : World) (h1 : InB (a, b)) (h2 : InB (c, d)) :
    Calls Try.prog 15 #[.agg #[.int .i64 a, .int .i64 b], .agg #[.int .i64 c, .int .i64 d]] w fun e w' => e = .returned (.tuple #[.agg #[.int .i64 (a * c + b * d), .int .i64 (a * d - b * c)], .int .i64 0]) ∧ Below w.heap.size w w' := by
  have H1 := Lib.hid h1
  have H2 := Lib.hid h2
  obtain ⟨a0, a1, b0, b1⟩ := h1
  obtain ⟨c0, c1, d0, d1⟩ := h2
  have ⟨p0, p1⟩ := cross_bd a c ⟨a0, a1⟩ ⟨c0, c1⟩
  have ⟨p2, p3⟩ := cross_bd b d ⟨b0, b1⟩ ⟨d0, d1⟩
  have ⟨p4, p5⟩ := cross_bd a d ⟨a0, a1⟩ ⟨d0, d1⟩
  have ⟨p6, p7⟩ := cross_bd b c ⟨b0, b1⟩ ⟨c0, c1⟩
  go_enter Try.func15, Try.ntmps15
  go_wp2_with fail
  refine (inside_yes (w.heap.size + 1 + 1 + 1) 2 (fun i => if i = 0 then (a, b) else (c, d)) _ (by omega) (by simp) (in2 (by simp [go_sem]) (by simp [go_sem]) (by simp [go_sem]) (by simp [go_sem])) (fun i _ => by match i with | 0 => exact H1.out | i + 1 => exact H2.out)).mono ?_
  rintro e w1 ⟨rfl, hb1⟩
  obtain ⟨hc, hf⟩ := bcell hb1
  have z := hb1.size
  simp only [World.size_alloc] at z
  have z0 : w.heap.size < w1.heap.size := by omega
  have z1 : w.heap.size + 1 < w1.heap.size := by omega
  have z2 : w.heap.size + 1 + 1 < w1.heap.size := by omega
  go_wp2_with fail
  refine bodyPost_ret (v := .tuple #[.agg #[.int .i64 (a * c + b * d), .int .i64 (a * d - b * c)], .int .i64 0]) (by simp [results, Try.results15, go_sem, hc, hf]) rfl ⟨rfl, ?_⟩
  exact (((((((Below.refl _ _).alloc (Nat.le_refl _) _).alloc (by simp) _).alloc (by simp; omega) _).alloc (by simp; omega) _).trans (hb1.mono (by simp; omega))).setCell (by simp; omega) _).setCell (by simp; omega) _
theorem Turn_no (a b c d : Int) (w : World) (h : ¬ (InB (a, b) ∧ InB (c, d))) :
    Calls Try.prog 15 #[.agg #[.int .i64 a, .int .i64 b], .agg #[.int .i64 c, .int .i64 d]] w fun e w' => e = .returned (.tuple #[.agg #[.int .i64 0, .int .i64 0], .int .i64 2]) ∧ Below w.heap.size w w' := by
  have H := Lib.hid h
  clear h
  go_enter Try.func15, Try.ntmps15
  go_wp2_with fail
  refine (inside_no (w.heap.size + 1 + 1 + 1) 2 (fun i => if i = 0 then (a, b) else (c, d)) _ (by omega) (by simp) (in2 (by simp [go_sem]) (by simp [go_sem]) (by simp [go_sem]) (by simp [go_sem])) (fun k => H.out ⟨k 0 (by omega), k 1 (by omega)⟩)).mono ?_
  rintro e w1 ⟨rfl, hb1⟩
  obtain ⟨hc, hf⟩ := bcell hb1
  have z := hb1.size
  simp only [World.size_alloc] at z
  have z2 : w.heap.size + 1 + 1 < w1.heap.size := by omega
  go_wp2_with fail
  refine bodyPost_ret (v := .tuple #[.agg #[.int .i64 0, .int .i64 0], .int .i64 2]) (by simp [results, Try.results15, go_sem, hc, hf]) rfl ⟨rfl, ?_⟩
  exact (((((((Below.refl _ _).alloc (Nat.le_refl _) _).alloc (by simp) _).alloc (by simp; omega) _).alloc (by simp; omega) _).trans (hb1.mono (by simp; omega))).setCell (by simp; omega) _).setCell (by simp; omega) _
end Go.Proofs.Ytcaaecmbbbdopaa
namespace Go.Proofs.Ytcaaecmbbbdopaa
open Go.RowKit
theorem dot_bd (a b c d : Int) (h1 : InB (a, b)) (h2 : InB (c, d)) : (-70368744177664 ≤ a * c + b * d ∧ a * c + b * d ≤ 70368744177664) ∧ (-70368744177664 ≤ a * d - b * c ∧ a * d - b * c ≤ 70368744177664) := by
  have p := cross_bd a c ⟨h1.1, h1.2.1⟩ ⟨h2.1, h2.2.1⟩
  have p2 := cross_bd b d h1.2.2 h2.2.2
  have p4 := cross_bd a d ⟨h1.1, h1.2.1⟩ h2.2.2
  have p6 := cross_bd b c h1.2.2 ⟨h2.1, h2.2.1⟩
  omega
theorem between_no (a b c d : Int) (v : Value) (w : World) (h : ¬ (InB (a, b) ∧ InB (c, d))) :
    Calls Try.prog 27 #[.agg #[.int .i64 a, .int .i64 b], .agg #[.int .i64 c, .int .i64 d], v] w fun e w' => e = .returned (.tuple #[.int .i64 0, .int .i64 2]) ∧ Below w.heap.size w w' := by
  have H := Lib.hid h
  clear h
  go_enter Try.func27, Try.ntmps27
  go_wp2_with fail
  refine (Turn_no a b c d _ H.out).mono ?_
  rintro e w1 ⟨rfl, hb1⟩
  have hB := (((Below.refl w.heap.size w).alloc (Nat.le_refl _) (.cells #[.int .i64 a, .int .i64 b] 41)).alloc (by simp) (.cells #[.int .i64 c, .int .i64 d] 41)).trans (hb1.mono (by simp; omega))
  have HB := Lib.hid hB
  have z := hB.size
  clear hB hb1
  go_wp2_with fail
  go_ret2
  exact ⟨rfl, HB.out.alloc z _⟩
theorem between_full_yes (a b c d : Int) (w : World) (h1 : InB (a, b)) (h2 : InB (c, d)) :
    Calls Try.prog 27 #[.agg #[.int .i64 a, .int .i64 b], .agg #[.int .i64 c, .int .i64 d], .func (.func 28) #[] #[]] w fun e w' => e = .returned (.tuple #[.int .i64 (fullF (Ang.fineF (a * c + b * d) (a * d - b * c))), .int .i64 0]) ∧ Below w.heap.size w w' := by
  obtain ⟨q1, q2⟩ := dot_bd a b c d h1 h2
  have H1 := Lib.hid h1
  have H2 := Lib.hid h2
  clear h1 h2
  go_enter Try.func27, Try.ntmps27
  go_wp2_with fail
  refine (Turn_yes a b c d _ H1.out H2.out).mono ?_
  rintro e w1 ⟨rfl, hb1⟩
  have hB := (((Below.refl w.heap.size w).alloc (Nat.le_refl _) (.cells #[.int .i64 a, .int .i64 b] 41)).alloc (by simp) (.cells #[.int .i64 c, .int .i64 d] 41)).trans (hb1.mono (by simp; omega))
  have HB := Lib.hid hB
  have z := hB.size
  clear hB hb1
  generalize hp : a * c + b * d = p at *
  generalize hq : a * d - b * c = q at *
  have HP := Lib.hid hp
  have HQ := Lib.hid hq
  clear hp hq
  go_wp2_with fail
  go_region_held3 (fun w' => w'.cell? ⟨w1.heap.size, 0, none⟩ = some (.int .i64 p) ∧ w'.cell? ⟨w1.heap.size, 1, none⟩ = some (.int .i64 q)) (first | exact ⟨by assumption, by assumption⟩ | (simp [go_sem, *]; done))
    (first
      | (go_at_call 45; refine (measured_any _ _).mono ?_; rintro e w2 ⟨rfl, rfl⟩)
      | (go_at_call 52; refine (measured1_full (w1.heap.size + 1) p q _ (by simp) (by simp [go_sem]) q1 q2).mono ?_; rintro e w2 ⟨rfl, hb2⟩; have G0 := (hb2.cell (p := ⟨w1.heap.size, 0, none⟩) (by simp; omega)).trans (show _ = some (.int .i64 p) by simp [go_sem]); have G1 := (hb2.cell (p := ⟨w1.heap.size, 1, none⟩) (by simp; omega)).trans (show _ = some (.int .i64 q) by simp [go_sem]); have HC := Lib.hid ((((HB.out.alloc z (.cells #[.int .i64 p, .int .i64 q] 41)).alloc (by simp; omega) (.cells #[.func (.func 28) #[] #[]] 62)).drew).trans (hb2.mono (by simp; omega))); clear hb2))
  go_wp2_with fail
  go_ret2
  exact ⟨by rw [HP.out, HQ.out]; rfl, HC.out⟩
theorem Rate_yes (a b c d : Int) (w : World) (h1 : InB (a, b)) (h2 : InB (c, d)) :
    Calls Try.prog 11 #[.agg #[.int .i64 a, .int .i64 b], .agg #[.int .i64 c, .int .i64 d]] w fun e w' => e = .returned (.tuple #[.int .i64 (fullF (Ang.fineF (a * c + b * d) (a * d - b * c))), .int .i64 0]) ∧ Below w.heap.size w w' := by
  have H1 := Lib.hid h1
  have H2 := Lib.hid h2
  clear h1 h2
  go_enter Try.func11, Try.ntmps11
  go_wp2_with fail
  refine (between_full_yes a b c d _ H1.out H2.out).mono ?_
  rintro e w1 ⟨rfl, hb1⟩
  have HB := Lib.hid ((((Below.refl w.heap.size w).alloc (Nat.le_refl _) (.cells #[.int .i64 a, .int .i64 b] 41)).alloc (by simp) (.cells #[.int .i64 c, .int .i64 d] 41)).trans (hb1.mono (by simp; omega)))
  clear hb1
  go_wp2_with fail
  go_ret2
  exact ⟨rfl, HB.out⟩
theorem Rate_no (a b c d : Int) (w : World) (h : ¬ (InB (a, b) ∧ InB (c, d))) :
    Calls Try.prog 11 #[.agg #[.int .i64 a, .int .i64 b], .agg #[.int .i64 c, .int .i64 d]] w fun e w' => e = .returned (.tuple #[.int .i64 0, .int .i64 2]) ∧ Below w.heap.size w w' := by
  have H := Lib.hid h
  clear h
  go_enter Try.func11, Try.ntmps11
  go_wp2_with fail
  refine (between_no a b c d _ _ H.out).mono ?_
  rintro e w1 ⟨rfl, hb1⟩
  have HB := Lib.hid ((((Below.refl w.heap.size w).alloc (Nat.le_refl _) (.cells #[.int .i64 a, .int .i64 b] 41)).alloc (by simp) (.cells #[.int .i64 c, .int .i64 d] 41)).trans (hb1.mono (by simp; omega)))
  clear hb1
  go_wp2_with fail
  go_ret2
  exact ⟨rfl, HB.out⟩
theorem between_half_yes (a b c d : Int) (w : World) (h1 : InB (a, b)) (h2 : InB (c, d)) :
    Calls Try.prog 27 #[.agg #[.int .i64 a, .int .i64 b], .agg #[.int .i64 c, .int .i64 d], .func (.func 34) #[] #[]] w fun e w' => e = .returned (.tuple #[.int .i64 (halfF (Ang.fineF (a * c + b * d) (a * d - b * c))), .int .i64 0]) ∧ Below w.heap.size w w' := by
  obtain ⟨q1, q2⟩ := dot_bd a b c d h1 h2
  have H1 := Lib.hid h1
  have H2 := Lib.hid h2
  clear h1 h2
  go_enter Try.func27, Try.ntmps27
  go_wp2_with fail
  refine (Turn_yes a b c d _ H1.out H2.out).mono ?_
  rintro e w1 ⟨rfl, hb1⟩
  have hB := (((Below.refl w.heap.size w).alloc (Nat.le_refl _) (.cells #[.int .i64 a, .int .i64 b] 41)).alloc (by simp) (.cells #[.int .i64 c, .int .i64 d] 41)).trans (hb1.mono (by simp; omega))
  have HB := Lib.hid hB
  have z := hB.size
  clear hB hb1
  generalize hp : a * c + b * d = p at *
  generalize hq : a * d - b * c = q at *
  have HP := Lib.hid hp
  have HQ := Lib.hid hq
  clear hp hq
  go_wp2_with fail
  go_region_held3 (fun w' => w'.cell? ⟨w1.heap.size, 0, none⟩ = some (.int .i64 p) ∧ w'.cell? ⟨w1.heap.size, 1, none⟩ = some (.int .i64 q)) (first | exact ⟨by assumption, by assumption⟩ | (simp [go_sem, *]; done))
    (first
      | (go_at_call 45; refine (measured_any _ _).mono ?_; rintro e w2 ⟨rfl, rfl⟩)
      | (go_at_call 52; refine (measured1_half (w1.heap.size + 1) p q _ (by simp) (by simp [go_sem]) q1 q2).mono ?_; rintro e w2 ⟨rfl, hb2⟩; have G0 := (hb2.cell (p := ⟨w1.heap.size, 0, none⟩) (by simp; omega)).trans (show _ = some (.int .i64 p) by simp [go_sem]); have G1 := (hb2.cell (p := ⟨w1.heap.size, 1, none⟩) (by simp; omega)).trans (show _ = some (.int .i64 q) by simp [go_sem]); have HC := Lib.hid ((((HB.out.alloc z (.cells #[.int .i64 p, .int .i64 q] 41)).alloc (by simp; omega) (.cells #[.func (.func 34) #[] #[]] 62)).drew).trans (hb2.mono (by simp; omega))); clear hb2))
  go_wp2_with fail
  go_ret2
  exact ⟨by rw [HP.out, HQ.out]; rfl, HC.out⟩
theorem HalfRate_yes (a b c d : Int) (w : World) (h1 : InB (a, b)) (h2 : InB (c, d)) :
    Calls Try.prog 16 #[.agg #[.int .i64 a, .int .i64 b], .agg #[.int .i64 c, .int .i64 d]] w fun e w' => e = .returned (.tuple #[.int .i64 (halfF (Ang.fineF (a * c + b * d) (a * d - b * c))), .int .i64 0]) ∧ Below w.heap.size w w' := by
  have H1 := Lib.hid h1
  have H2 := Lib.hid h2
  clear h1 h2
  go_enter Try.func16, Try.ntmps16
  go_wp2_with fail
  refine (between_half_yes a b c d _ H1.out H2.out).mono ?_
  rintro e w1 ⟨rfl, hb1⟩
  have HB := Lib.hid ((((Below.refl w.heap.size w).alloc (Nat.le_refl _) (.cells #[.int .i64 a, .int .i64 b] 41)).alloc (by simp) (.cells #[.int .i64 c, .int .i64 d] 41)).trans (hb1.mono (by simp; omega)))
  clear hb1
  go_wp2_with fail
  go_ret2
  exact ⟨rfl, HB.out⟩
theorem HalfRate_no (a b c d : Int) (w : World) (h : ¬ (InB (a, b) ∧ InB (c, d))) :
    Calls Try.prog 16 #[.agg #[.int .i64 a, .int .i64 b], .agg #[.int .i64 c, .int .i64 d]] w fun e w' => e = .returned (.tuple #[.int .i64 0, .int .i64 2]) ∧ Below w.heap.size w w' := by
  have H := Lib.hid h
  clear h
  go_enter Try.func16, Try.ntmps16
  go_wp2_with fail
  refine (between_no a b c d _ _ H.out).mono ?_
  rintro e w1 ⟨rfl, hb1⟩
  have HB := Lib.hid ((((Below.refl w.heap.size w).alloc (Nat.le_refl _) (.cells #[.int .i64 a, .int .i64 b] 41)).alloc (by simp) (.cells #[.int .i64 c, .int .i64 d] 41)).trans (hb1.mono (by simp; omega)))
  clear hb1
  go_wp2_with fail
  go_ret2
  exact ⟨rfl, HB.out⟩
end Go.Proofs.Ytcaaecmbbbdopaa
namespace Go.Proofs.Ytcaaecmbbbdopaa
open Go.RowKit
theorem in3 {b : Nat} {x y u v s t : Int} {w : World} (c0 : w.cell? ⟨b, 0, none⟩ = some (.int .i64 x)) (c1 : w.cell? ⟨b, 1, none⟩ = some (.int .i64 y)) (c2 : w.cell? ⟨b, 2, none⟩ = some (.int .i64 u)) (c3 : w.cell? ⟨b, 3, none⟩ = some (.int .i64 v)) (c4 : w.cell? ⟨b, 4, none⟩ = some (.int .i64 s)) (c5 : w.cell? ⟨b, 5, none⟩ = some (.int .i64 t)) : ∀ i, i < 3 → w.cell? ⟨b, i * 2, none⟩ = some (.int .i64 ((fun i => if i = 0 then (x, y) else if i = 1 then (u, v) else (s, t)) i : Int × Int).1) ∧ w.cell? ⟨b, i * 2 + 1, none⟩ = some (.int .i64 ((fun i => if i = 0 then (x, y) else if i = 1 then (u, v) else (s, t)) i : Int × Int).2) := by
  intro i h
  match i, h with
  | 0, _ => exact ⟨c0, c1⟩
  | 1, _ => exact ⟨c2, c3⟩
  | 2, _ => exact ⟨c4, c5⟩
def codeD (a b s t : Int) : Int := shareF (a * a + b * b - (s * s + t * t)) (a * a + b * b + (s * s + t * t))
theorem Code_no (a b c d s t : Int) (w : World) (h : ¬ (InB (a, b) ∧ InB (c, d) ∧ InB (s, t))) :
    Calls Try.prog 12 #[.agg #[.int .i64 a, .int .i64 b, .int .i64 c, .int .i64 d, .int .i64 s, .int .i64 t]] w fun e w' => e = .returned (.tuple #[.int .i64 0, .int .i64 2]) ∧ Below w.heap.size w w' := by
  have H := Lib.hid h
  clear h
  go_enter Try.func12, Try.ntmps12
  go_wp2_with fail
  refine (inside_no (w.heap.size + 1) 3 (fun i => if i = 0 then (a, b) else if i = 1 then (c, d) else (s, t)) _ (by omega) (by simp) (in3 (by simp [go_sem]) (by simp [go_sem]) (by simp [go_sem]) (by simp [go_sem]) (by simp [go_sem]) (by simp [go_sem])) (fun k => H.out ⟨k 0 (by omega), k 1 (by omega), k 2 (by omega)⟩)).mono ?_
  rintro e w1 ⟨rfl, hb1⟩
  have HB := Lib.hid ((((Below.refl w.heap.size w).alloc (Nat.le_refl _) (.cells #[.int .i64 a, .int .i64 b, .int .i64 c, .int .i64 d, .int .i64 s, .int .i64 t] 49)).alloc (by simp) (.cells #[.int .i64 a, .int .i64 b, .int .i64 c, .int .i64 d, .int .i64 s, .int .i64 t] 41)).trans (hb1.mono (by simp; omega)))
  clear hb1
  go_wp2_with fail
  go_ret2
  exact ⟨rfl, HB.out⟩
theorem Code_yes (a b c d s t : Int) (w : World) (h1 : InB (a, b)) (h2 : InB (c, d)) (h3 : InB (s, t)) :
    Calls Try.prog 12 #[.agg #[.int .i64 a, .int .i64 b, .int .i64 c, .int .i64 d, .int .i64 s, .int .i64 t]] w fun e w' => e = .returned (.tuple #[.int .i64 (codeD a b s t), .int .i64 0]) ∧ Below w.heap.size w w' := by
  have H1 := Lib.hid h1
  have H2 := Lib.hid h2
  have H3 := Lib.hid h3
  obtain ⟨a0, a1, b0, b1⟩ := h1
  obtain ⟨s0, s1, t0, t1⟩ := h3
  have p1 := sq_bd a a0 a1
  have p2 := sq_bd b b0 b1
  have p3 := sq_bd s s0 s1
  have p4 := sq_bd t t0 t1
  clear h2
  go_enter Try.func12, Try.ntmps12
  go_wp2_with fail
  refine (inside_yes (w.heap.size + 1) 3 (fun i => if i = 0 then (a, b) else if i = 1 then (c, d) else (s, t)) _ (by omega) (by simp) (in3 (by simp [go_sem]) (by simp [go_sem]) (by simp [go_sem]) (by simp [go_sem]) (by simp [go_sem]) (by simp [go_sem])) (fun i _ => by match i with | 0 => exact H1.out | 1 => exact H2.out | i + 2 => exact H3.out)).mono ?_
  rintro e w1 ⟨rfl, hb1⟩
  have HB := Lib.hid ((((Below.refl w.heap.size w).alloc (Nat.le_refl _) (.cells #[.int .i64 a, .int .i64 b, .int .i64 c, .int .i64 d, .int .i64 s, .int .i64 t] 49)).alloc (by simp) (.cells #[.int .i64 a, .int .i64 b, .int .i64 c, .int .i64 d, .int .i64 s, .int .i64 t] 41)).trans (hb1.mono (by simp; omega)))
  have d0 := (hb1.cell (p := ⟨w.heap.size, 0, none⟩) (by simp; omega)).trans (show _ = some (.int .i64 a) by simp [go_sem])
  have d1 := (hb1.cell (p := ⟨w.heap.size, 1, none⟩) (by simp; omega)).trans (show _ = some (.int .i64 b) by simp [go_sem])
  have d4 := (hb1.cell (p := ⟨w.heap.size, 4, none⟩) (by simp; omega)).trans (show _ = some (.int .i64 s) by simp [go_sem])
  have d5 := (hb1.cell (p := ⟨w.heap.size, 5, none⟩) (by simp; omega)).trans (show _ = some (.int .i64 t) by simp [go_sem])
  have z := hb1.size
  simp only [World.size_alloc] at z
  have z0 : w.heap.size < w1.heap.size := by omega
  clear hb1
  go_wp2_with fail
  go_region_held3 (fun w' => w'.cell? ⟨w.heap.size, 0, none⟩ = some (.int .i64 a) ∧ w'.cell? ⟨w.heap.size, 1, none⟩ = some (.int .i64 b) ∧ w'.cell? ⟨w.heap.size, 4, none⟩ = some (.int .i64 s) ∧ w'.cell? ⟨w.heap.size, 5, none⟩ = some (.int .i64 t)) (first | exact ⟨by assumption, by assumption, by assumption, by assumption⟩ | (simp [go_sem, *]; done))
    (first
      | (go_at_call 30; refine (power_any _ _ (by first | exact H1.out | exact H3.out) _).mono ?_; rintro e w2 ⟨rfl, hb2⟩; have G0 := (hb2.cell (p := ⟨w.heap.size, 0, none⟩) (by assumption)).trans (by assumption); have G1 := (hb2.cell (p := ⟨w.heap.size, 1, none⟩) (by assumption)).trans (by assumption); have G4 := (hb2.cell (p := ⟨w.heap.size, 4, none⟩) (by assumption)).trans (by assumption); have G5 := (hb2.cell (p := ⟨w.heap.size, 5, none⟩) (by assumption)).trans (by assumption); have z2 : w.heap.size < w2.heap.size := Nat.lt_of_lt_of_le (by assumption) hb2.size; have HC := Lib.hid (show Below w.heap.size w _ by first | exact (Hid.out ‹Hid (Below w.heap.size w _)›).trans (hb2.mono (by omega)) | exact (Hid.out ‹Hid (Below w.heap.size w _)›).drew.trans (hb2.mono (Nat.le_of_lt (by assumption)))); clear hb2))
  go_wp2_with fail
  refine (share_any _ _ (by omega) (by omega) (by omega) _).mono ?_
  rintro e w3 ⟨rfl, rfl⟩
  go_wp2_with fail
  go_ret2
  exact ⟨rfl, HC.out⟩
theorem awake_any (w : World) :
    Calls Try.prog 18 #[] w fun e w' => e = .returned (.bool true) ∧ Below w.heap.size w w' := by
  have i1 : InB (2, 0) := by unfold InB; simp
  have i0 : InB (0, 0) := by unfold InB; simp
  have i2 : InB (0, 1) := by unfold InB; simp
  have i3 : InB (0, -1) := by unfold InB; simp
  have i4 : InB (3, 1) := by unfold InB; simp
  have e1 : codeD 2 0 0 1 = 614 := by decide
  have e2 : fullF (Ang.fineF 0 (-1)) = -1024 := by decide +kernel
  have e3 : shareF (3 * 3 - 1 * 1) (3 * 3 + 1 * 1) = 819 := by decide
  have I0 := Lib.hid i0
  have I1 := Lib.hid i1
  have I2 := Lib.hid i2
  have I3 := Lib.hid i3
  have I4 := Lib.hid i4
  have E1 := Lib.hid e1
  have E2 := Lib.hid e2
  have E3 := Lib.hid e3
  clear i0 i1 i2 i3 i4 e1 e2 e3
  go_enter Try.func18, Try.ntmps18
  go_wp2_with fail
  refine (Code_yes _ _ _ _ _ _ _ I1.out I0.out I2.out).mono ?_
  rintro e w1 ⟨rfl, hb1⟩
  rw [E1.out]
  go_wp2_with fail
  refine (Full_yes _ _ _ I3.out).mono ?_
  rintro e w2 ⟨rfl, hb2⟩
  rw [E2.out]
  go_wp2_with fail
  refine (Lock_yes _ _ _ I4.out).mono ?_
  rintro e w3 ⟨rfl, hb3⟩
  rw [E3.out]
  go_wp2_with fail
  go_ret
  exact ⟨rfl, (hb1.trans (hb2.mono hb1.size)).trans (hb3.mono (Nat.le_trans hb1.size hb2.size))⟩
end Go.Proofs.Ytcaaecmbbbdopaa
namespace Go.Proofs.Ytcaaecmbbbdopaa
open Go.RowKit
open Classical in
noncomputable def inE (p : Prop) : Int := if p then 0 else 2
open Classical in
noncomputable def inV (p : Prop) (v : Int) : Int := if p then v else 0
theorem inE_yes {p : Prop} (h : p) : inE p = 0 := by unfold inE; rw [if_pos h]
theorem inE_no {p : Prop} (h : ¬ p) : inE p = 2 := by unfold inE; rw [if_neg h]
theorem inV_yes {p : Prop} (h : p) (v : Int) : inV p v = v := by unfold inV; rw [if_pos h]
theorem inV_no {p : Prop} (h : ¬ p) (v : Int) : inV p v = 0 := by unfold inV; rw [if_neg h]
def In3 (a b c d s t : Int) : Prop := InB (a, b) ∧ InB (c, d) ∧ InB (s, t)
def In2 (a b c d : Int) : Prop := InB (a, b) ∧ InB (c, d)
def In1 (a b : Int) : Prop := InB (a, b)
theorem Full_any (x y : Int) (w : World) :
    Calls Try.prog 32 #[.agg #[.int .i64 x, .int .i64 y]] w fun e w' => e = .returned (.tuple #[.int .i64 (inV (In1 x y) (fullF (Ang.fineF x y))), .int .i64 (inE (In1 x y))]) ∧ Below w.heap.size w w' := by
  by_cases h : InB (x, y)
  · rw [inV_yes (show In1 x y from h), inE_yes (show In1 x y from h)]; exact Full_yes x y w h
  · rw [inV_no (show ¬ In1 x y from h), inE_no (show ¬ In1 x y from h)]; exact Full_no x y w h
theorem Half_any (x y : Int) (w : World) :
    Calls Try.prog 33 #[.agg #[.int .i64 x, .int .i64 y]] w fun e w' => e = .returned (.tuple #[.int .i64 (inV (In1 x y) (halfF (Ang.fineF x y))), .int .i64 (inE (In1 x y))]) ∧ Below w.heap.size w w' := by
  by_cases h : InB (x, y)
  · rw [inV_yes (show In1 x y from h), inE_yes (show In1 x y from h)]; exact Half_yes x y w h
  · rw [inV_no (show ¬ In1 x y from h), inE_no (show ¬ In1 x y from h)]; exact Half_no x y w h
theorem Lock_any (x y : Int) (w : World) :
    Calls Try.prog 35 #[.agg #[.int .i64 x, .int .i64 y]] w fun e w' => e = .returned (.tuple #[.int .i64 (inV (In1 x y) (shareF (x * x - y * y) (x * x + y * y))), .int .i64 (inE (In1 x y))]) ∧ Below w.heap.size w w' := by
  by_cases h : InB (x, y)
  · rw [inV_yes (show In1 x y from h), inE_yes (show In1 x y from h)]; exact Lock_yes x y w h
  · rw [inV_no (show ¬ In1 x y from h), inE_no (show ¬ In1 x y from h)]; exact Lock_no x y w h
theorem Rate_any (a b c d : Int) (w : World) :
    Calls Try.prog 11 #[.agg #[.int .i64 a, .int .i64 b], .agg #[.int .i64 c, .int .i64 d]] w fun e w' => e = .returned (.tuple #[.int .i64 (inV (In2 a b c d) (fullF (Ang.fineF (a * c + b * d) (a * d - b * c)))), .int .i64 (inE (In2 a b c d))]) ∧ Below w.heap.size w w' := by
  by_cases h : InB (a, b) ∧ InB (c, d)
  · rw [inV_yes (show In2 a b c d from h), inE_yes (show In2 a b c d from h)]; exact Rate_yes a b c d w h.1 h.2
  · rw [inV_no (show ¬ In2 a b c d from h), inE_no (show ¬ In2 a b c d from h)]; exact Rate_no a b c d w h
theorem HalfRate_any (a b c d : Int) (w : World) :
    Calls Try.prog 16 #[.agg #[.int .i64 a, .int .i64 b], .agg #[.int .i64 c, .int .i64 d]] w fun e w' => e = .returned (.tuple #[.int .i64 (inV (In2 a b c d) (halfF (Ang.fineF (a * c + b * d) (a * d - b * c)))), .int .i64 (inE (In2 a b c d))]) ∧ Below w.heap.size w w' := by
  by_cases h : InB (a, b) ∧ InB (c, d)
  · rw [inV_yes (show In2 a b c d from h), inE_yes (show In2 a b c d from h)]; exact HalfRate_yes a b c d w h.1 h.2
  · rw [inV_no (show ¬ In2 a b c d from h), inE_no (show ¬ In2 a b c d from h)]; exact HalfRate_no a b c d w h
theorem Turn_any (a b c d : Int) (w : World) :
    Calls Try.prog 15 #[.agg #[.int .i64 a, .int .i64 b], .agg #[.int .i64 c, .int .i64 d]] w fun e w' => e = .returned (.tuple #[.agg #[.int .i64 (inV (In2 a b c d) (a * c + b * d)), .int .i64 (inV (In2 a b c d) (a * d - b * c))], .int .i64 (inE (In2 a b c d))]) ∧ Below w.heap.size w w' := by
  by_cases h : InB (a, b) ∧ InB (c, d)
  · rw [inV_yes (show In2 a b c d from h), inV_yes (show In2 a b c d from h), inE_yes (show In2 a b c d from h)]; exact Turn_yes a b c d w h.1 h.2
  · rw [inV_no (show ¬ In2 a b c d from h), inV_no (show ¬ In2 a b c d from h), inE_no (show ¬ In2 a b c d from h)]; exact Turn_no a b c d w h
theorem Code_any (a b c d s t : Int) (w : World) :
    Calls Try.prog 12 #[.agg #[.int .i64 a, .int .i64 b, .int .i64 c, .int .i64 d, .int .i64 s, .int .i64 t]] w fun e w' => e = .returned (.tuple #[.int .i64 (inV (In3 a b c d s t) (codeD a b s t)), .int .i64 (inE (In3 a b c d s t))]) ∧ Below w.heap.size w w' := by
  by_cases h : InB (a, b) ∧ InB (c, d) ∧ InB (s, t)
  · rw [inV_yes (show In3 a b c d s t from h), inE_yes (show In3 a b c d s t from h)]; exact Code_yes a b c d s t w h.1 h.2.1 h.2.2
  · rw [inV_no (show ¬ In3 a b c d s t from h), inE_no (show ¬ In3 a b c d s t from h)]; exact Code_no a b c d s t w h
end Go.Proofs.Ytcaaecmbbbdopaa
namespace Go.Proofs.Ytcaaecmbbbdopaa
open Go.RowKit
theorem lfull_yes (x y : Int) (w : World) (h : InB (x, y)) :
    Calls Try.prog 13 #[.int .i64 x, .int .i64 y] w fun e w' => e = .returned (.tuple #[.int .i64 (fullF (Ang.fineF x y)), .bool true]) ∧ Below w.heap.size w w' := by
  have H := Lib.hid h
  clear h
  go_enter Try.func13, Try.ntmps13
  go_wp2_with fail
  refine (Full_yes x y _ H.out).mono ?_
  rintro e w1 ⟨rfl, hb1⟩
  go_wp2_with fail
  go_ret2
  exact ⟨rfl, hb1⟩
theorem lhalf_yes (x y : Int) (w : World) (h : InB (x, y)) :
    Calls Try.prog 14 #[.int .i64 x, .int .i64 y] w fun e w' => e = .returned (.tuple #[.int .i64 (halfF (Ang.fineF x y)), .bool true]) ∧ Below w.heap.size w w' := by
  have H := Lib.hid h
  clear h
  go_enter Try.func14, Try.ntmps14
  go_wp2_with fail
  refine (Half_yes x y _ H.out).mono ?_
  rintro e w1 ⟨rfl, hb1⟩
  go_wp2_with fail
  go_ret2
  exact ⟨rfl, hb1⟩
theorem llock_yes (x y : Int) (w : World) (h : InB (x, y)) :
    Calls Try.prog 17 #[.int .i64 x, .int .i64 y] w fun e w' => e = .returned (.tuple #[.int .i64 (shareF (x * x - y * y) (x * x + y * y)), .bool true]) ∧ Below w.heap.size w w' := by
  have H := Lib.hid h
  clear h
  go_enter Try.func17, Try.ntmps17
  go_wp2_with fail
  refine (Lock_yes x y _ H.out).mono ?_
  rintro e w1 ⟨rfl, hb1⟩
  go_wp2_with fail
  go_ret2
  exact ⟨rfl, hb1⟩
theorem llock_no (x y : Int) (w : World) (h : ¬ InB (x, y)) :
    Calls Try.prog 17 #[.int .i64 x, .int .i64 y] w fun e w' => e = .returned (.tuple #[.int .i64 0, .bool false]) ∧ Below w.heap.size w w' := by
  have H := Lib.hid h
  clear h
  go_enter Try.func17, Try.ntmps17
  go_wp2_with fail
  refine (Lock_no x y _ H.out).mono ?_
  rintro e w1 ⟨rfl, hb1⟩
  go_wp2_with fail
  go_ret2
  exact ⟨rfl, hb1⟩
set_option maxRecDepth 100000 in
theorem known_any (w : World) :
    Calls Try.prog 4 #[] w fun e w' => e = .returned (.bool true) ∧ Below w.heap.size w w' := by
  have I_0_1 := Lib.hid (show InB (0, 1) by unfold InB; simp)
  have I_0_0 := Lib.hid (show InB (0, 0) by unfold InB; simp)
  have I_2_0 := Lib.hid (show InB (2, 0) by unfold InB; simp)
  have I_1_0 := Lib.hid (show InB (1, 0) by unfold InB; simp)
  have I_m1_0 := Lib.hid (show InB (-1, 0) by unfold InB; simp)
  have I_0_m1 := Lib.hid (show InB (0, -1) by unfold InB; simp)
  have I_3_0 := Lib.hid (show InB (3, 0) by unfold InB; simp)
  have I_0_5 := Lib.hid (show InB (0, 5) by unfold InB; simp)
  have I_1_1 := Lib.hid (show InB (1, 1) by unfold InB; simp)
  have I_bad := Lib.hid (show ¬ InB (1048577, 0) by unfold InB; simp)
  have E0 := Lib.hid (show codeD 0 1 2 0 = -614 by decide +kernel)
  have E1 := Lib.hid (show codeD 0 0 0 0 = 0 by decide +kernel)
  have E2 := Lib.hid (show codeD 1 0 1 0 = 0 by decide +kernel)
  have E3 := Lib.hid (show fullF (Ang.fineF (1) (0)) = 0 by decide +kernel)
  have E4 := Lib.hid (show fullF (Ang.fineF (0) (1)) = 1024 by decide +kernel)
  have E5 := Lib.hid (show fullF (Ang.fineF (-1) (0)) = -2048 by decide +kernel)
  have E6 := Lib.hid (show halfF (Ang.fineF (0) (1)) = -1024 by decide +kernel)
  have E7 := Lib.hid (show halfF (Ang.fineF (0) (-1)) = -1024 by decide +kernel)
  have E8 := Lib.hid (show halfF (Ang.fineF (-1) (0)) = 0 by decide +kernel)
  have E10 := Lib.hid (show fullF (Ang.fineF (0 * 1 + 1 * 0) (0 * 0 - 1 * 1)) = -1024 by decide +kernel)
  have E11 := Lib.hid (show halfF (Ang.fineF (0 * 1 + 1 * 0) (0 * 0 - 1 * 1)) = -1024 by decide +kernel)
  have E12 := Lib.hid (show fullF (Ang.fineF (0 * 1 + 0 * 0) (0 * 0 - 0 * 1)) = 0 by decide +kernel)
  have E13 := Lib.hid (show shareF ((3) * (3) - (0) * (0)) ((3) * (3) + (0) * (0)) = 1024 by decide +kernel)
  have E14 := Lib.hid (show shareF ((0) * (0) - (5) * (5)) ((0) * (0) + (5) * (5)) = -1024 by decide +kernel)
  have E15 := Lib.hid (show shareF ((1) * (1) - (1) * (1)) ((1) * (1) + (1) * (1)) = 0 by decide +kernel)
  have E16 := Lib.hid (show shareF ((0) * (0) - (0) * (0)) ((0) * (0) + (0) * (0)) = 0 by decide +kernel)
  go_enter Try.func4, Try.ntmps4
  go_wp2_with fail
  refine (Code_yes 0 1 0 0 2 0 _ I_0_1.out I_0_0.out I_2_0.out).mono ?_
  rintro e w1 ⟨rfl, hb⟩
  rw [E0.out]
  have HB1 := Lib.hid ((Below.refl w.heap.size w).trans (hb.mono ((Below.refl w.heap.size w).size)))
  clear hb
  go_wp2_with fail
  refine (Code_yes 0 0 0 0 0 0 _ I_0_0.out I_0_0.out I_0_0.out).mono ?_
  rintro e w2 ⟨rfl, hb⟩
  rw [E1.out]
  have HB2 := Lib.hid (HB1.out.trans (hb.mono (HB1.out.size)))
  clear hb
  go_wp2_with fail
  refine (Code_yes 1 0 0 0 1 0 _ I_1_0.out I_0_0.out I_1_0.out).mono ?_
  rintro e w3 ⟨rfl, hb⟩
  rw [E2.out]
  have HB3 := Lib.hid (HB2.out.trans (hb.mono (HB2.out.size)))
  clear hb
  go_wp2_with fail
  refine (lfull_yes (1) (0) _ I_1_0.out).mono ?_
  rintro e w4 ⟨rfl, hb⟩
  rw [E3.out]
  have HB4 := Lib.hid (HB3.out.trans (hb.mono (HB3.out.size)))
  clear hb
  go_wp2_with fail
  refine (lfull_yes (0) (1) _ I_0_1.out).mono ?_
  rintro e w5 ⟨rfl, hb⟩
  rw [E4.out]
  have HB5 := Lib.hid (HB4.out.trans (hb.mono (HB4.out.size)))
  clear hb
  go_wp2_with fail
  refine (lfull_yes (-1) (0) _ I_m1_0.out).mono ?_
  rintro e w6 ⟨rfl, hb⟩
  rw [E5.out]
  have HB6 := Lib.hid (HB5.out.trans (hb.mono (HB5.out.size)))
  clear hb
  go_wp2_with fail
  refine (lhalf_yes (0) (1) _ I_0_1.out).mono ?_
  rintro e w7 ⟨rfl, hb⟩
  rw [E6.out]
  have HB7 := Lib.hid (HB6.out.trans (hb.mono (HB6.out.size)))
  clear hb
  go_wp2_with fail
  refine (lhalf_yes (0) (-1) _ I_0_m1.out).mono ?_
  rintro e w8 ⟨rfl, hb⟩
  rw [E7.out]
  have HB8 := Lib.hid (HB7.out.trans (hb.mono (HB7.out.size)))
  clear hb
  go_wp2_with fail
  refine (lhalf_yes (-1) (0) _ I_m1_0.out).mono ?_
  rintro e w9 ⟨rfl, hb⟩
  rw [E8.out]
  have HB9 := Lib.hid (HB8.out.trans (hb.mono (HB8.out.size)))
  clear hb
  go_wp2_with fail
  refine (Turn_yes 0 1 1 0 _ I_0_1.out I_1_0.out).mono ?_
  rintro e w10 ⟨rfl, hb⟩
  have HB10 := Lib.hid (HB9.out.trans (hb.mono (HB9.out.size)))
  clear hb
  go_wp2_with fail
  refine (Rate_yes 0 1 1 0 _ I_0_1.out I_1_0.out).mono ?_
  rintro e w11 ⟨rfl, hb⟩
  rw [E10.out]
  have t0 := (hb.cell (p := ⟨w10.heap.size, 0, none⟩) (by simp)).trans (show _ = some (.int .i64 0) by simp [go_sem])
  have t1 := (hb.cell (p := ⟨w10.heap.size, 1, none⟩) (by simp)).trans (show _ = some (.int .i64 (-1)) by simp [go_sem])
  have zz := hb.size
  simp only [World.size_alloc] at zz
  have tz11 : w10.heap.size < w11.heap.size := by omega
  have HB11 := Lib.hid ((HB10.out.alloc HB10.out.size (.cells #[.int .i64 0, .int .i64 (-1)] 41)).trans (hb.mono (Nat.le_trans HB10.out.size (by simp))))
  clear hb zz
  go_wp2_with fail
  refine (HalfRate_yes 0 1 1 0 _ I_0_1.out I_1_0.out).mono ?_
  rintro e w12 ⟨rfl, hb⟩
  rw [E11.out]
  have t0' := (hb.cell (p := ⟨w10.heap.size, 0, none⟩) tz11).trans t0
  have t1' := (hb.cell (p := ⟨w10.heap.size, 1, none⟩) tz11).trans t1
  clear t0 t1
  have t0 := t0'
  have t1 := t1'
  clear t0' t1'
  have tz12 := Nat.lt_of_lt_of_le tz11 hb.size
  have HB12 := Lib.hid (HB11.out.trans (hb.mono (HB11.out.size)))
  clear hb
  go_wp2_with fail
  refine (Rate_yes 0 0 1 0 _ I_0_0.out I_1_0.out).mono ?_
  rintro e w13 ⟨rfl, hb⟩
  rw [E12.out]
  have t0' := (hb.cell (p := ⟨w10.heap.size, 0, none⟩) tz12).trans t0
  have t1' := (hb.cell (p := ⟨w10.heap.size, 1, none⟩) tz12).trans t1
  clear t0 t1
  have t0 := t0'
  have t1 := t1'
  clear t0' t1'
  have tz13 := Nat.lt_of_lt_of_le tz12 hb.size
  have HB13 := Lib.hid (HB12.out.trans (hb.mono (HB12.out.size)))
  clear hb
  go_wp2_with fail
  refine (llock_yes (3) (0) _ I_3_0.out).mono ?_
  rintro e w14 ⟨rfl, hb⟩
  rw [E13.out]
  have t0' := (hb.cell (p := ⟨w10.heap.size, 0, none⟩) tz13).trans t0
  have t1' := (hb.cell (p := ⟨w10.heap.size, 1, none⟩) tz13).trans t1
  clear t0 t1
  have t0 := t0'
  have t1 := t1'
  clear t0' t1'
  have tz14 := Nat.lt_of_lt_of_le tz13 hb.size
  have HB14 := Lib.hid (HB13.out.trans (hb.mono (HB13.out.size)))
  clear hb
  go_wp2_with fail
  refine (llock_yes (0) (5) _ I_0_5.out).mono ?_
  rintro e w15 ⟨rfl, hb⟩
  rw [E14.out]
  have t0' := (hb.cell (p := ⟨w10.heap.size, 0, none⟩) tz14).trans t0
  have t1' := (hb.cell (p := ⟨w10.heap.size, 1, none⟩) tz14).trans t1
  clear t0 t1
  have t0 := t0'
  have t1 := t1'
  clear t0' t1'
  have tz15 := Nat.lt_of_lt_of_le tz14 hb.size
  have HB15 := Lib.hid (HB14.out.trans (hb.mono (HB14.out.size)))
  clear hb
  go_wp2_with fail
  refine (llock_yes (1) (1) _ I_1_1.out).mono ?_
  rintro e w16 ⟨rfl, hb⟩
  rw [E15.out]
  have t0' := (hb.cell (p := ⟨w10.heap.size, 0, none⟩) tz15).trans t0
  have t1' := (hb.cell (p := ⟨w10.heap.size, 1, none⟩) tz15).trans t1
  clear t0 t1
  have t0 := t0'
  have t1 := t1'
  clear t0' t1'
  have tz16 := Nat.lt_of_lt_of_le tz15 hb.size
  have HB16 := Lib.hid (HB15.out.trans (hb.mono (HB15.out.size)))
  clear hb
  go_wp2_with fail
  refine (llock_yes (0) (0) _ I_0_0.out).mono ?_
  rintro e w17 ⟨rfl, hb⟩
  rw [E16.out]
  have t0' := (hb.cell (p := ⟨w10.heap.size, 0, none⟩) tz16).trans t0
  have t1' := (hb.cell (p := ⟨w10.heap.size, 1, none⟩) tz16).trans t1
  clear t0 t1
  have t0 := t0'
  have t1 := t1'
  clear t0' t1'
  have tz17 := Nat.lt_of_lt_of_le tz16 hb.size
  have HB17 := Lib.hid (HB16.out.trans (hb.mono (HB16.out.size)))
  clear hb
  go_wp2_with fail
  refine (llock_no 1048577 0 _ I_bad.out).mono ?_
  rintro e w18 ⟨rfl, hb⟩
  have t0' := (hb.cell (p := ⟨w10.heap.size, 0, none⟩) tz17).trans t0
  have t1' := (hb.cell (p := ⟨w10.heap.size, 1, none⟩) tz17).trans t1
  clear t0 t1
  have t0 := t0'
  have t1 := t1'
  clear t0' t1'
  have tz18 := Nat.lt_of_lt_of_le tz17 hb.size
  have HB18 := Lib.hid (HB17.out.trans (hb.mono (HB17.out.size)))
  clear hb
  go_wp2_with fail
  refine (awake_any _).mono ?_
  rintro e wz ⟨rfl, hb⟩
  have HZ := Lib.hid (HB18.out.trans (hb.mono (HB18.out.size)))
  clear hb
  go_wp2_with fail
  go_ret
  exact ⟨rfl, HZ.out⟩
end Go.Proofs.Ytcaaecmbbbdopaa
