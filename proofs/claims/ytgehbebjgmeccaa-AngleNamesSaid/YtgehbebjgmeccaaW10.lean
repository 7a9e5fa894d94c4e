/- Contracts of functions of the program and of its reference, out of walks. Their conditions stand ahead of each. -/
import Derived.Test.YtgehbebjgmeccaaW9
set_option linter.unusedVariables false
set_option linter.unusedSimpArgs false
namespace Go.Proofs.Ytgehbebjgmeccaa
open Go.RowKit
def SecRes (x y : Int) (w : World) (e : Ending) (w' : World) : Prop := ∃ K A B : Int, e = .returned (.tuple #[.int .i64 K, .int .i64 A, .int .i64 B]) ∧ ((Ang.IsSec K x y ∧ A = Ang.d (K - 1) x y ∧ B = - Ang.d K x y) ∨ (x = 0 ∧ y = 0 ∧ K = 0 ∧ A = 0 ∧ B = 0)) ∧ Below w.heap.size w w'
theorem sec_found {j x y : Int} (j0 : 0 ≤ j) (j1 : j < 64) (h1 : 0 ≤ Ang.mi (j - 1) * y - Ang.mq (j - 1) * x) (h2 : 0 < x * Ang.mq j - y * Ang.mi j) : Ang.IsSec j x y := ⟨j0, j1, h1, h2⟩
theorem sec_none {x y : Int} (h : ∀ j : Nat, (j : Int) < 64 → ¬ (0 ≤ Ang.mi ((j : Int) - 1) * y - Ang.mq ((j : Int) - 1) * x ∧ 0 < x * Ang.mq j - y * Ang.mi j)) : x = 0 ∧ y = 0 := by
  by_cases hne : x ≠ 0 ∨ y ≠ 0
  · obtain ⟨k, a, b, c, e⟩ := Ang.ex_sec x y hne
    have := h k.toNat (by omega)
    rw [Int.toNat_of_nonneg a] at this
    exact absurd ⟨c, e⟩ this
  · omega
theorem rsector_any (x y : Int) (hx : -70368744177664 ≤ x ∧ x ≤ 70368744177664) (hy : -70368744177664 ≤ y ∧ y ≤ 70368744177664) (w : World) :
    Calls Try.prog 152 #[.agg #[.int .i64 x, .int .i64 y]] w (SecRes x y w) := by
  go_enter Try.func152, Try.ntmps152
  go_wp2_with fail
  go_loopw [5] (fun u wr => ∃ j : Nat, u = .int .i64 j ∧ (j : Int) ≤ 64 ∧ (∀ t : Nat, t < j → ¬ (0 ≤ Ang.mi ((t : Int) - 1) * y - Ang.mq ((t : Int) - 1) * x ∧ 0 < x * Ang.mq t - y * Ang.mi t)) ∧ wr.cell? ⟨w.heap.size, 0, none⟩ = some (.int .i64 x) ∧ wr.cell? ⟨w.heap.size, 1, none⟩ = some (.int .i64 y) ∧ w.heap.size < wr.heap.size ∧ Below w.heap.size w wr) (fun u _ => (64 - intOf u).toNat)
  case atStart => exact ⟨0, by go_num, by omega, fun t h => absurd h (Nat.not_lt_zero _), by simp [go_sem], by simp [go_sem], by simp, (Below.refl _ _).alloc (Nat.le_refl _) _⟩
  case round =>
    obtain ⟨j, rfl, j64, hno, c0, c1, hs, hb⟩ := hrel
    have HNO := Lib.hid hno
    clear hno
    by_cases hlt : (j : Int) < 64
    · have m := mi_bd j
      have p1 := mulbd y (Ang.mi j) 70368744177664 254 hy.1 hy.2 m.1 m.2.1
      have p2 := mulbd x (Ang.mq j) 70368744177664 254 hx.1 hx.2 m.2.2.1 m.2.2.2
      have m' := mi_bd ((j : Int) - 1)
      have p3 := mulbd (Ang.mi ((j : Int) - 1)) y 254 70368744177664 m'.1 m'.2.1 hy.1 hy.2
      have p4 := mulbd (Ang.mq ((j : Int) - 1)) x 254 70368744177664 m'.2.2.1 m'.2.2.2 hx.1 hx.2
      have hfd := @sec_found (j : Int) x y (by omega) hlt
      have HFD := Lib.hid hfd
      clear m m' hfd
      have w1' : IntKind.i64.wrap ((j : Int) - 1) = (j : Int) - 1 := IntWalk.i64_in _ (by omega)
      have hb0 := Lib.hid hb
      clear hb
      go_wp2_with fail
      go_region_held3 (fun w' => w'.cell? ⟨w.heap.size, 0, none⟩ = some (.int .i64 x) ∧ w'.cell? ⟨w.heap.size, 1, none⟩ = some (.int .i64 y)) (first | exact ⟨by assumption, by assumption⟩ | (simp [go_sem, *]; done))
        (first
          | (go_at_call 180; refine (rboundary_any _ (by omega) (by omega) _).mono ?_; rintro e w1 ⟨rfl, hb1⟩; obtain ⟨g1, g2, z1⟩ := step2 (b := w.heap.size) hb1 (by assumption); have G0 := (g1 0).trans (by assumption); have G1 := (g1 1).trans (by assumption); have HC := Lib.hid (show Below w.heap.size w _ by first | exact (Hid.out ‹Hid (Below w.heap.size w _)›).trans (hb1.mono (by omega)) | exact (Hid.out ‹Hid (Below w.heap.size w _)›).drew.trans (hb1.mono (Nat.le_of_lt (by assumption)))); clear hb1 g1 g2)
          | (go_at_call 179; refine (rcross_any _ _ _ _ (by omega) (by omega) (by omega) _).mono ?_; rintro e w2 ⟨rfl, hb2⟩; obtain ⟨g1, g2, z2⟩ := step2 (b := w.heap.size) hb2 (by assumption); have G2 := (g1 0).trans (by assumption); have G3 := (g1 1).trans (by assumption); have HC := Lib.hid (show Below w.heap.size w _ by first | exact (Hid.out ‹Hid (Below w.heap.size w _)›).trans (hb2.mono (by omega)) | exact (Hid.out ‹Hid (Below w.heap.size w _)›).drew.trans (hb2.mono (Nat.le_of_lt (by assumption)))); clear hb2 g1 g2))
      generalize hA : Ang.mi ((j : Int) - 1) * y - Ang.mq ((j : Int) - 1) * x = A at *
      generalize hB : x * Ang.mq j - y * Ang.mi j = B at *
      have HA := Lib.hid hA
      have HB := Lib.hid hB
      clear hA hB
      by_cases t1 : 0 ≤ A
      · by_cases t2 : 0 < B
        · have hsec := HFD.out t1 t2
          have HS := Lib.hid hsec
          clear hsec
          go_wp2_with fail
          go_ret3
          exact ⟨_, _, _, rfl, Or.inl ⟨HS.out, HA.out.symm, by unfold Ang.d; rw [← HB.out, Int.mul_comm x, Int.mul_comm y]; omega⟩, HC.out⟩
        · have hno2 : ∀ t : Nat, t < j + 1 → ¬ (0 ≤ Ang.mi ((t : Int) - 1) * y - Ang.mq ((t : Int) - 1) * x ∧ 0 < x * Ang.mq t - y * Ang.mi t) := by
            intro t ht
            by_cases htj : t = j
            · subst htj; rw [HA.out, HB.out]; omega
            · exact HNO.out t (by omega)
          have HN2 := Lib.hid hno2
          clear hno2
          go_wp2_with fail
          exact ⟨⟨j + 1, by go_num, by omega, HN2.out, by assumption, by assumption, by assumption, HC.out⟩, by simp [intOf]; omega⟩
      · have hno2 : ∀ t : Nat, t < j + 1 → ¬ (0 ≤ Ang.mi ((t : Int) - 1) * y - Ang.mq ((t : Int) - 1) * x ∧ 0 < x * Ang.mq t - y * Ang.mi t) := by
          intro t ht
          by_cases htj : t = j
          · subst htj; rw [HA.out, HB.out]; omega
          · exact HNO.out t (by omega)
        have HN2 := Lib.hid hno2
        clear hno2
        go_wp2_with fail
        exact ⟨⟨j + 1, by go_num, by omega, HN2.out, by assumption, by assumption, by assumption, HC.out⟩, by simp [intOf]; omega⟩
    · have hz := sec_none (x := x) (y := y) (fun j' h => HNO.out j' (by omega))
      have HZ := Lib.hid hz
      clear hz
      go_wp2_with fail
      go_ret3
      exact ⟨_, _, _, rfl, Or.inr ⟨HZ.out.1, HZ.out.2, rfl, rfl, rfl⟩, hb⟩
theorem rSector_no (x y : Int) (h : ¬ (-70368744177664 ≤ x ∧ x ≤ 70368744177664 ∧ -70368744177664 ≤ y ∧ y ≤ 70368744177664)) (w : World) :
    Calls Try.prog 76 #[.agg #[.int .i64 x, .int .i64 y]] w fun e w' => e = .returned (.tuple #[.int .i64 0, .int .i64 2]) ∧ Below w.heap.size w w' := by
  have H := Lib.hid h
  clear h
  go_enter Try.func76, Try.ntmps76
  go_wp2_with (go_at_call 139; refine (rsmall_no x y H.out _).mono ?_; rintro e w1 ⟨rfl, hb1⟩)
  go_ret2
  exact ⟨rfl, ((Below.refl _ _).alloc (Nat.le_refl _) _).trans (hb1.mono (by simp))⟩
theorem rSector_yes (x y : Int) (hx : -70368744177664 ≤ x ∧ x ≤ 70368744177664) (hy : -70368744177664 ≤ y ∧ y ≤ 70368744177664) (w : World) :
    Calls Try.prog 76 #[.agg #[.int .i64 x, .int .i64 y]] w fun e w' => e = .returned (.tuple #[.int .i64 (Ang.secF x y), .int .i64 0]) ∧ Below w.heap.size w w' := by
  go_enter Try.func76, Try.ntmps76
  go_wp2_with fail
  refine (rsmall_yes x y hx hy _).mono ?_
  rintro e w1 ⟨rfl, hb1⟩
  obtain ⟨c1, f1, z1⟩ := step2 (b := w.heap.size) hb1 (by simp)
  go_wp2_with fail
  refine (rsector_any x y hx hy _).mono ?_
  rintro e w2 ⟨K, A, B, rfl, hres, hb2⟩
  have hK : K = Ang.secF x y := by
    rcases hres with h | h
    · exact (Ang.secF_eq h.1).symm
    · rw [h.1, h.2.1, h.2.2.1, Ang.secF_zero]
  subst hK
  clear hres
  go_wp2_with fail
  go_ret2
  exact ⟨rfl, (((Below.refl _ _).alloc (Nat.le_refl _) _).trans (hb1.mono (by simp))).trans (hb2.mono (by omega))⟩
theorem rFine_no (x y : Int) (h : ¬ (-70368744177664 ≤ x ∧ x ≤ 70368744177664 ∧ -70368744177664 ≤ y ∧ y ≤ 70368744177664)) (w : World) :
    Calls Try.prog 77 #[.agg #[.int .i64 x, .int .i64 y]] w fun e w' => e = .returned (.tuple #[.int .i64 0, .int .i64 2]) ∧ Below w.heap.size w w' := by
  have H := Lib.hid h
  clear h
  go_enter Try.func77, Try.ntmps77
  go_wp2_with (go_at_call 139; refine (rsmall_no x y H.out _).mono ?_; rintro e w1 ⟨rfl, hb1⟩)
  go_ret2
  exact ⟨rfl, ((Below.refl _ _).alloc (Nat.le_refl _) _).trans (hb1.mono (by simp))⟩
theorem rFine_yes (x y : Int) (hx : -70368744177664 ≤ x ∧ x ≤ 70368744177664) (hy : -70368744177664 ≤ y ∧ y ≤ 70368744177664) (w : World) :
    Calls Try.prog 77 #[.agg #[.int .i64 x, .int .i64 y]] w fun e w' => e = .returned (.tuple #[.int .i64 (Ang.fineF x y), .int .i64 0]) ∧ Below w.heap.size w w' := by
  go_enter Try.func77, Try.ntmps77
  go_wp2_with fail
  refine (rsmall_yes x y hx hy _).mono ?_
  rintro e w1 ⟨rfl, hb1⟩
  obtain ⟨c1, f1, z1⟩ := step2 (b := w.heap.size) hb1 (by simp)
  go_wp2_with fail
  refine (rsector_any x y hx hy _).mono ?_
  rintro e w2 ⟨K, A, B, rfl, hres, hb2⟩
  rcases hres with h | h
  · have f := Ang.fab h.1
    have hne : x ≠ 0 ∨ y ≠ 0 := by
      by_cases h0 : x ≠ 0 ∨ y ≠ 0
      · exact h0
      · have e1 : x = 0 := by omega
        have e2 : y = 0 := by omega
        subst e1 e2
        have := h.1.2.2.2
        simp at this
    have hfe := Ang.fineF_eq hne
    have hfl : Ang.fl x y = 64 * Ang.fa x y / (Ang.fa x y + Ang.fb x y) := rfl
    rw [hfl, f.1, f.2.1, ← h.2.1, ← h.2.2, Ang.secF_eq h.1] at hfe
    rw [f.1, f.2.1, ← h.2.1, ← h.2.2] at f
    obtain ⟨_, _, A0, B0⟩ := f
    have k0 := h.1.1
    have k1 := h.1.2.1
    have m := mi_bd K
    have p1 := mulbd (Ang.mi K) y 254 70368744177664 m.1 m.2.1 hy.1 hy.2
    have p2 := mulbd (Ang.mq K) x 254 70368744177664 m.2.2.1 m.2.2.2 hx.1 hx.2
    have m' := mi_bd (K - 1)
    have p3 := mulbd (Ang.mi (K - 1)) y 254 70368744177664 m'.1 m'.2.1 hy.1 hy.2
    have p4 := mulbd (Ang.mq (K - 1)) x 254 70368744177664 m'.2.2.1 m'.2.2.2 hx.1 hx.2
    have A1 : A ≤ 40000000000000000 := by rw [h.2.1]; unfold Ang.d; omega
    have B1 : B ≤ 40000000000000000 := by rw [h.2.2]; unfold Ang.d; omega
    have HFE := Lib.hid hfe
    clear hfe hfl h m m' p1 p2 p3 p4
    have h0 : (A + B == 0) = false := by simp; omega
    have q0 : 0 ≤ 64 * A / (A + B) := Int.ediv_nonneg (by omega) (by omega)
    have q1 : 64 * A / (A + B) < 64 := Int.ediv_lt_of_lt_mul (by omega) (by omega)
    have e4 := Go.Proofs.Ytgehbebjgmeccaa.K.and4095 (64 * K - 32 + 64 * A / (A + B))
    rw [← HFE.out] at e4
    go_wp2_with fail
    go_ret2
    exact ⟨rfl, (((Below.refl _ _).alloc (Nat.le_refl _) _).trans (hb1.mono (by simp))).trans (hb2.mono (by omega))⟩
  · obtain ⟨rfl, rfl, rfl, rfl, rfl⟩ := h
    go_wp2_with fail
    go_ret2
    exact ⟨rfl, (((Below.refl _ _).alloc (Nat.le_refl _) _).trans (hb1.mono (by simp))).trans (hb2.mono (by omega))⟩
end Go.Proofs.Ytgehbebjgmeccaa
