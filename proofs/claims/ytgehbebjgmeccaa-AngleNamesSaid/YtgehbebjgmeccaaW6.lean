/- Contracts of functions of the program and of its reference, out of walks. Their conditions stand ahead of each. -/
import Derived.Test.YtgehbebjgmeccaaW5
set_option linter.unusedVariables false
set_option linter.unusedSimpArgs false
namespace Go.Proofs.Ytgehbebjgmeccaa
open Go.RowKit
def bk : Nat → Int × Int → Int × Int
  | 0, p => p
  | j + 1, p => ((bk j p).2, -(bk j p).1)
theorem bk_succ (j : Nat) (p : Int × Int) : bk (j + 1) p = ((bk j p).2, -(bk j p).1) := rfl
theorem rotP3 (x y : Int) : rotP (3 : Int).toNat (x, y) = (y, -x) := by
  show (-(-y), -x) = (y, -x); rw [Int.neg_neg]
theorem bk_bd (j : Nat) (x y A : Int) (hx : -A ≤ x ∧ x ≤ A) (hy : -A ≤ y ∧ y ≤ A) :
    (-A ≤ (bk j (x, y)).1 ∧ (bk j (x, y)).1 ≤ A) ∧ (-A ≤ (bk j (x, y)).2 ∧ (bk j (x, y)).2 ≤ A) := by
  induction j with
  | zero => exact ⟨hx, hy⟩
  | succ j ih => rw [bk_succ]; simp only; omega
def Seen (j : Nat) (x y : Int) : Prop := (1 ≤ j → ¬ (0 < x ∧ 0 ≤ y)) ∧ (2 ≤ j → ¬ (0 < y ∧ 0 ≤ -x)) ∧ (3 ≤ j → ¬ (0 < -x ∧ 0 ≤ -y))
theorem seen_next (j : Nat) (x y : Int) (hne : x ≠ 0 ∨ y ≠ 0) (hj : j ≤ 3) (h : Seen j x y) (hn : ¬ (0 < (bk j (x, y)).1 ∧ 0 ≤ (bk j (x, y)).2)) : j + 1 ≤ 3 ∧ Seen (j + 1) x y := by
  unfold Seen at *
  match j, hj with
  | 0, _ => simp [bk] at hn; omega
  | 1, _ => simp [bk] at hn; omega
  | 2, _ => simp [bk] at hn; omega
  | 3, _ => simp [bk] at hn; omega
theorem sector_last (j : Nat) (k x y : Int) (hj : j ≤ 3) (hq : 0 < (bk j (x, y)).1 ∧ 0 ≤ (bk j (x, y)).2) (h0 : 0 ≤ k) (h1 : k ≤ 16) (hlo : ∀ t, 0 ≤ t → t < k → pB t (bk j (x, y)).1 (bk j (x, y)).2 = false) (hhi : k < 16 → pB k (bk j (x, y)).1 (bk j (x, y)).2 = true) :
    Ang.secF x y = (k + 16 * j) % 64 := by
  have s := Ang.sec0 k _ _ h0 h1 (show Ang.Quarter 0 (bk j (x, y)).1 (bk j (x, y)).2 from Or.inl ⟨rfl, hq.1, hq.2⟩)
    (fun t t0 t1 => by have := hlo t t0 t1; simpa [pB] using this) (fun h => by have := hhi h; simpa [pB] using this)
  refine Ang.secF_eq (Ang.isSec_rotN j k x y _ _ s ?_ ?_ ?_ ?_ (by omega))
  · rintro rfl; exact ⟨rfl, rfl⟩
  · rintro rfl; simp [bk]
  · rintro rfl; simp [bk]
  · rintro rfl; simp [bk]
theorem pB_mono (x y : Int) (hq : 0 < x ∧ 0 ≤ y) (k : Int) (h0 : 0 ≤ k) (h1 : k < 16) (h : pB k x y = true) : pB (k + 1) x y = true := by
  unfold pB at *
  simp only [decide_eq_true_eq] at *
  exact Ang.next k x y h0 h1 (Or.inl ⟨rfl, hq.1, hq.2⟩) h
theorem turned3 (x y : Int) (hx : -70368744177664 ≤ x ∧ x ≤ 70368744177664) (hy : -70368744177664 ≤ y ∧ y ≤ 70368744177664) (w : World) :
    Calls Try.prog 171 #[.agg #[.int .i64 x, .int .i64 y], .int .i64 3] w fun e w' => e = .returned (.agg #[.int .i64 y, .int .i64 (-x)]) ∧ Below w.heap.size w w' := by
  have h := turned_any 3 x y (by omega) (by omega) (by omega) (by omega) w
  rw [rotP3] at h
  exact h
theorem sector_any (x y : Int) (hne : x ≠ 0 ∨ y ≠ 0) (hx : -70368744177664 ≤ x ∧ x ≤ 70368744177664) (hy : -70368744177664 ≤ y ∧ y ≤ 70368744177664) (w : World) :
    Calls Try.prog 138 #[.agg #[.int .i64 x, .int .i64 y]] w fun e w' => e = .returned (.int .i64 (Ang.secF x y)) ∧ Below w.heap.size w w' := by
  have HN := Lib.hid hne
  clear hne
  go_enter Try.func138, Try.ntmps138
  go_wp2_with fail
  go_loopw [3] (fun u wr => ∃ j : Nat, u = .int .i64 j ∧ j ≤ 3 ∧ Seen j x y ∧ wr.cell? ⟨w.heap.size, 0, none⟩ = some (.int .i64 (bk j (x, y)).1) ∧ wr.cell? ⟨w.heap.size, 1, none⟩ = some (.int .i64 (bk j (x, y)).2) ∧ wr.frozen? ⟨w.heap.size, 0, none⟩ = false ∧ wr.frozen? ⟨w.heap.size, 1, none⟩ = false ∧ w.heap.size < wr.heap.size ∧ Below w.heap.size w wr) (fun u _ => (4 - intOf u).toNat)
  case atStart => exact ⟨0, rfl, by omega, ⟨by omega, by omega, by omega⟩, by simp [bk, go_sem], by simp [bk, go_sem], by simp [go_sem], by simp [go_sem], by simp, (Below.refl _ _).alloc (Nat.le_refl _) _⟩
  case round =>
    obtain ⟨j, rfl, j3, hseen, c0, c1, f0, f1, hs, hb⟩ := hrel
    have HS := Lib.hid hseen
    clear hseen
    obtain ⟨bx, bY⟩ := bk_bd j x y 70368744177664 hx hy
    have last := fun (k : Int) => sector_last j k x y j3
    have HL := Lib.hid last
    clear last
    have nxt := seen_next j x y HN.out j3 HS.out
    have HX := Lib.hid nxt
    clear nxt
    have hbs := bk_succ j (x, y)
    have HB := Lib.hid hbs
    clear hbs
    generalize hp : (bk j (x, y)).1 = p at *
    generalize hq : (bk j (x, y)).2 = q at *
    have HP := Lib.hid hp
    have HQ := Lib.hid hq
    clear hp hq
    by_cases t1 : p ≤ 0
    · have nx := HX.out (by omega)
      go_wp2_with (go_at_call 171; refine (turned3 _ _ bx bY _).mono ?_; rintro e w1 ⟨rfl, hb1⟩; obtain ⟨g1, g2, z1⟩ := step2 (b := w.heap.size) hb1 hs)
      refine ⟨⟨j + 1, by go_num, nx.1, nx.2, by rw [HB.out]; go_simp, by rw [HB.out]; go_simp, by go_simp, by go_simp, by simpa using z1, ((hb.trans (hb1.mono (by omega))).setCell (by simp) _).setCell (by simp) _⟩, by simp [intOf]; omega⟩
    by_cases t2 : q < 0
    · have nx := HX.out (by omega)
      go_wp2_with (go_at_call 171; refine (turned3 _ _ bx bY _).mono ?_; rintro e w1 ⟨rfl, hb1⟩; obtain ⟨g1, g2, z1⟩ := step2 (b := w.heap.size) hb1 hs)
      refine ⟨⟨j + 1, by go_num, nx.1, nx.2, by rw [HB.out]; go_simp, by rw [HB.out]; go_simp, by go_simp, by go_simp, by simpa using z1, ((hb.trans (hb1.mono (by omega))).setCell (by simp) _).setCell (by simp) _⟩, by simp [intOf]; omega⟩
    · have hq1 : 0 < p ∧ 0 ≤ q := by omega
      have hmono := pB_mono p q hq1
      have HM := Lib.hid hmono
      clear hmono
      have HQ1 := Lib.hid hq1
      clear hq1
      go_wp2_with fail
      refine (search_any p q w.heap.size bx bY _ c0 c1 hs HM.out).mono ?_
      rintro e w1 ⟨⟨k, rfl, k0, k1, hlo, hhi⟩, hb1⟩
      have hsec := HL.out k HQ1.out k0 k1 hlo hhi
      have HSEC := Lib.hid hsec
      clear hsec hlo hhi
      go_wp2_with fail
      go_ret
      exact ⟨ret_int HSEC.out.symm, hb.trans (hb1.mono (by omega))⟩
end Go.Proofs.Ytgehbebjgmeccaa
