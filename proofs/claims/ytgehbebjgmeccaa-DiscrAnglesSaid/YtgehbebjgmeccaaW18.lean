/- Contracts of functions of the program and of its reference, out of walks. Their conditions stand ahead of each. -/
import Derived.Test.YtgehbebjgmeccaaW16
import Derived.Test.YtgehbebjgmeccaaW17
set_option linter.unusedVariables false
set_option linter.unusedSimpArgs false
namespace Go.Proofs.Ytgehbebjgmeccaa
open Go.RowKit
theorem rRate_yes (a b c d : Int) (w : World) (h1 : InB (a, b)) (h2 : InB (c, d)) :
    Calls Try.prog 36 #[.agg #[.int .i64 a, .int .i64 b], .agg #[.int .i64 c, .int .i64 d]] w fun e w' => e = .returned (.tuple #[.int .i64 (fullF (Ang.fineF (a * c + b * d) (a * d - b * c))), .int .i64 0]) ∧ Below w.heap.size w w' := by
  obtain ⟨q1, q2⟩ := dot_bd a b c d h1 h2
  have H1 := Lib.hid h1
  have H2 := Lib.hid h2
  have hf := Ang.fineF_bd (a * c + b * d) (a * d - b * c)
  unfold fullF
  clear h1 h2
  go_enter Try.func36, Try.ntmps36
  go_wp2_with fail
  refine (rTurn_yes a b c d _ H1.out H2.out).mono ?_
  rintro e w1 ⟨rfl, hb1⟩
  have hB := (((Below.refl w.heap.size w).alloc (Nat.le_refl _) (.cells #[.int .i64 a, .int .i64 b] 23)).alloc (by simp) (.cells #[.int .i64 c, .int .i64 d] 23)).trans (hb1.mono (by simp; omega))
  have HB := Lib.hid hB
  have z := hB.size
  clear hB hb1
  generalize hp : a * c + b * d = p at *
  generalize hq : a * d - b * c = q at *
  have HP := Lib.hid hp
  have HQ := Lib.hid hq
  clear hp hq
  go_wp2_with fail
  refine (rFine_yes p q q1 q2 _).mono ?_
  rintro e w2 ⟨rfl, hb2⟩
  have HC := Lib.hid ((HB.out.alloc z (.cells #[.int .i64 p, .int .i64 q] 23)).trans (hb2.mono (by simp; omega)))
  clear hb2
  go_wp2_with fail
  refine (within_full _ (by omega) (by omega) _).mono ?_
  rintro e w3 ⟨rfl, rfl⟩
  go_wp2_with fail
  go_ret2
  exact ⟨by rw [HP.out, HQ.out]; rfl, HC.out⟩
theorem rRate_no (a b c d : Int) (w : World) (h : ¬ (InB (a, b) ∧ InB (c, d))) :
    Calls Try.prog 36 #[.agg #[.int .i64 a, .int .i64 b], .agg #[.int .i64 c, .int .i64 d]] w fun e w' => e = .returned (.tuple #[.int .i64 0, .int .i64 2]) ∧ Below w.heap.size w w' := by
  have H := Lib.hid h
  clear h
  go_enter Try.func36, Try.ntmps36
  go_wp2_with fail
  refine (rTurn_no a b c d _ H.out).mono ?_
  rintro e w1 ⟨rfl, hb1⟩
  have hB := (((Below.refl w.heap.size w).alloc (Nat.le_refl _) (.cells #[.int .i64 a, .int .i64 b] 23)).alloc (by simp) (.cells #[.int .i64 c, .int .i64 d] 23)).trans (hb1.mono (by simp; omega))
  have HB := Lib.hid hB
  have z := hB.size
  clear hB hb1
  go_wp2_with fail
  go_ret2
  exact ⟨rfl, HB.out.alloc z _⟩
theorem rHalfRate_yes (a b c d : Int) (w : World) (h1 : InB (a, b)) (h2 : InB (c, d)) :
    Calls Try.prog 38 #[.agg #[.int .i64 a, .int .i64 b], .agg #[.int .i64 c, .int .i64 d]] w fun e w' => e = .returned (.tuple #[.int .i64 (halfF (Ang.fineF (a * c + b * d) (a * d - b * c))), .int .i64 0]) ∧ Below w.heap.size w w' := by
  obtain ⟨q1, q2⟩ := dot_bd a b c d h1 h2
  have H1 := Lib.hid h1
  have H2 := Lib.hid h2
  have hf := Ang.fineF_bd (a * c + b * d) (a * d - b * c)
  unfold halfF
  clear h1 h2
  go_enter Try.func38, Try.ntmps38
  go_wp2_with fail
  refine (rTurn_yes a b c d _ H1.out H2.out).mono ?_
  rintro e w1 ⟨rfl, hb1⟩
  have hB := (((Below.refl w.heap.size w).alloc (Nat.le_refl _) (.cells #[.int .i64 a, .int .i64 b] 23)).alloc (by simp) (.cells #[.int .i64 c, .int .i64 d] 23)).trans (hb1.mono (by simp; omega))
  have HB := Lib.hid hB
  have z := hB.size
  clear hB hb1
  generalize hp : a * c + b * d = p at *
  generalize hq : a * d - b * c = q at *
  have HP := Lib.hid hp
  have HQ := Lib.hid hq
  clear hp hq
  go_wp2_with fail
  refine (rFine_yes p q q1 q2 _).mono ?_
  rintro e w2 ⟨rfl, hb2⟩
  have HC := Lib.hid ((HB.out.alloc z (.cells #[.int .i64 p, .int .i64 q] 23)).trans (hb2.mono (by simp; omega)))
  clear hb2
  go_wp2_with fail
  refine (within_half _ (by omega) (by omega) _).mono ?_
  rintro e w3 ⟨rfl, rfl⟩
  go_wp2_with fail
  go_ret2
  exact ⟨by rw [HP.out, HQ.out]; rfl, HC.out⟩
theorem rHalfRate_no (a b c d : Int) (w : World) (h : ¬ (InB (a, b) ∧ InB (c, d))) :
    Calls Try.prog 38 #[.agg #[.int .i64 a, .int .i64 b], .agg #[.int .i64 c, .int .i64 d]] w fun e w' => e = .returned (.tuple #[.int .i64 0, .int .i64 2]) ∧ Below w.heap.size w w' := by
  have H := Lib.hid h
  clear h
  go_enter Try.func38, Try.ntmps38
  go_wp2_with fail
  refine (rTurn_no a b c d _ H.out).mono ?_
  rintro e w1 ⟨rfl, hb1⟩
  have hB := (((Below.refl w.heap.size w).alloc (Nat.le_refl _) (.cells #[.int .i64 a, .int .i64 b] 23)).alloc (by simp) (.cells #[.int .i64 c, .int .i64 d] 23)).trans (hb1.mono (by simp; omega))
  have HB := Lib.hid hB
  have z := hB.size
  clear hB hb1
  go_wp2_with fail
  go_ret2
  exact ⟨rfl, HB.out.alloc z _⟩
theorem in3 {b : Nat} {x y u v s t : Int} {w : World} (c0 : w.cell? ⟨b, 0, none⟩ = some (.int .i64 x)) (c1 : w.cell? ⟨b, 1, none⟩ = some (.int .i64 y)) (c2 : w.cell? ⟨b, 2, none⟩ = some (.int .i64 u)) (c3 : w.cell? ⟨b, 3, none⟩ = some (.int .i64 v)) (c4 : w.cell? ⟨b, 4, none⟩ = some (.int .i64 s)) (c5 : w.cell? ⟨b, 5, none⟩ = some (.int .i64 t)) : ∀ i, i < 3 → w.cell? ⟨b, i * 2, none⟩ = some (.int .i64 ((fun i => if i = 0 then (x, y) else if i = 1 then (u, v) else (s, t)) i : Int × Int).1) ∧ w.cell? ⟨b, i * 2 + 1, none⟩ = some (.int .i64 ((fun i => if i = 0 then (x, y) else if i = 1 then (u, v) else (s, t)) i : Int × Int).2) := by
  intro i h
  match i, h with
  | 0, _ => exact ⟨c0, c1⟩
  | 1, _ => exact ⟨c2, c3⟩
  | 2, _ => exact ⟨c4, c5⟩
def codeF (a b s t : Int) : Int := shareF (a * a + b * b - (s * s + t * t)) (a * a + b * b + (s * s + t * t))
theorem Code_no (a b c d s t : Int) (w : World) (h : ¬ (InB (a, b) ∧ InB (c, d) ∧ InB (s, t))) :
    Calls Try.prog 24 #[.agg #[.int .i64 a, .int .i64 b, .int .i64 c, .int .i64 d, .int .i64 s, .int .i64 t]] w fun e w' => e = .returned (.tuple #[.int .i64 0, .int .i64 2]) ∧ Below w.heap.size w w' := by
  have H := Lib.hid h
  clear h
  go_enter Try.func24, Try.ntmps24
  go_wp2_with fail
  refine (inside_no (w.heap.size + 1) 3 (fun i => if i = 0 then (a, b) else if i = 1 then (c, d) else (s, t)) _ (by omega) (by simp) (in3 (by simp [go_sem]) (by simp [go_sem]) (by simp [go_sem]) (by simp [go_sem]) (by simp [go_sem]) (by simp [go_sem])) (fun k => H.out ⟨k 0 (by omega), k 1 (by omega), k 2 (by omega)⟩)).mono ?_
  rintro e w1 ⟨rfl, hb1⟩
  have HB := Lib.hid ((((Below.refl w.heap.size w).alloc (Nat.le_refl _) (.cells #[.int .i64 a, .int .i64 b, .int .i64 c, .int .i64 d, .int .i64 s, .int .i64 t] 25)).alloc (by simp) (.cells #[.int .i64 a, .int .i64 b, .int .i64 c, .int .i64 d, .int .i64 s, .int .i64 t] 23)).trans (hb1.mono (by simp; omega)))
  clear hb1
  go_wp2_with fail
  go_ret2
  exact ⟨rfl, HB.out⟩
theorem Code_yes (a b c d s t : Int) (w : World) (h1 : InB (a, b)) (h2 : InB (c, d)) (h3 : InB (s, t)) :
    Calls Try.prog 24 #[.agg #[.int .i64 a, .int .i64 b, .int .i64 c, .int .i64 d, .int .i64 s, .int .i64 t]] w fun e w' => e = .returned (.tuple #[.int .i64 (codeF a b s t), .int .i64 0]) ∧ Below w.heap.size w w' := by
  have H1 := Lib.hid h1
  have H2 := Lib.hid h2
  have H3 := Lib.hid h3
  obtain ⟨a0, a1, b0, b1⟩ := h1
  obtain ⟨s0, s1, t0, t1⟩ := h3
  have p1 := sq_bd a a0 a1
  have p2 := sq_bd b b0 b1
  have p3 := sq_bd s s0 s1
  have p4 := sq_bd t t0 t1
  clear h2
  go_enter Try.func24, Try.ntmps24
  go_wp2_with fail
  refine (inside_yes (w.heap.size + 1) 3 (fun i => if i = 0 then (a, b) else if i = 1 then (c, d) else (s, t)) _ (by omega) (by simp) (in3 (by simp [go_sem]) (by simp [go_sem]) (by simp [go_sem]) (by simp [go_sem]) (by simp [go_sem]) (by simp [go_sem])) (fun i _ => by match i with | 0 => exact H1.out | 1 => exact H2.out | i + 2 => exact H3.out)).mono ?_
  rintro e w1 ⟨rfl, hb1⟩
  have HB := Lib.hid ((((Below.refl w.heap.size w).alloc (Nat.le_refl _) (.cells #[.int .i64 a, .int .i64 b, .int .i64 c, .int .i64 d, .int .i64 s, .int .i64 t] 25)).alloc (by simp) (.cells #[.int .i64 a, .int .i64 b, .int .i64 c, .int .i64 d, .int .i64 s, .int .i64 t] 23)).trans (hb1.mono (by simp; omega)))
  have d0 := (hb1.cell (p := ⟨w.heap.size, 0, none⟩) (by simp; omega)).trans (show _ = some (.int .i64 a) by simp [go_sem])
  have d1 := (hb1.cell (p := ⟨w.heap.size, 1, none⟩) (by simp; omega)).trans (show _ = some (.int .i64 b) by simp [go_sem])
  have d4 := (hb1.cell (p := ⟨w.heap.size, 4, none⟩) (by simp; omega)).trans (show _ = some (.int .i64 s) by simp [go_sem])
  have d5 := (hb1.cell (p := ⟨w.heap.size, 5, none⟩) (by simp; omega)).trans (show _ = some (.int .i64 t) by simp [go_sem])
  have z := hb1.size
  simp only [World.size_alloc] at z
  have z0 : w.heap.size < w1.heap.size := by omega
  clear hb1
  go_wp2_with fail
  go_region_held3 (fun w' => w'.cell? ⟨w.heap.size, 0, none⟩ = some (.int .i64 a) ∧ w'.cell? ⟨w.heap.size, 1, none⟩ = some (.int .i64 b) ∧ w'.cell? ⟨w.heap.size, 4, none⟩ = some (.int .i64 s) ∧ w'.cell? ⟨w.heap.size, 5, none⟩ = some (.int .i64 t)) (first | exact ⟨by assumption, by assumption, by assumption, by assumption⟩ | (simp [go_sem, *]; done))
    (first
      | (go_at_call 109; refine (power_any _ _ (by first | exact H1.out | exact H3.out) _).mono ?_; rintro e w2 ⟨rfl, hb2⟩; have G0 := (hb2.cell (p := ⟨w.heap.size, 0, none⟩) (by assumption)).trans (by assumption); have G1 := (hb2.cell (p := ⟨w.heap.size, 1, none⟩) (by assumption)).trans (by assumption); have G4 := (hb2.cell (p := ⟨w.heap.size, 4, none⟩) (by assumption)).trans (by assumption); have G5 := (hb2.cell (p := ⟨w.heap.size, 5, none⟩) (by assumption)).trans (by assumption); have z2 : w.heap.size < w2.heap.size := Nat.lt_of_lt_of_le (by assumption) hb2.size; have HC := Lib.hid (show Below w.heap.size w _ by first | exact (Hid.out ‹Hid (Below w.heap.size w _)›).trans (hb2.mono (by omega)) | exact (Hid.out ‹Hid (Below w.heap.size w _)›).drew.trans (hb2.mono (Nat.le_of_lt (by assumption)))); clear hb2))
  go_wp2_with fail
  refine (share_any _ _ (by omega) (by omega) (by omega) _).mono ?_
  rintro e w3 ⟨rfl, rfl⟩
  go_wp2_with fail
  go_ret2
  exact ⟨rfl, HC.out⟩
theorem rCode_yes (a b c d s t : Int) (w : World) (h1 : InB (a, b)) (h2 : InB (c, d)) (h3 : InB (s, t)) :
    Calls Try.prog 25 #[.agg #[.int .i64 a, .int .i64 b, .int .i64 c, .int .i64 d, .int .i64 s, .int .i64 t]] w fun e w' => e = .returned (.tuple #[.int .i64 (codeF a b s t), .int .i64 0]) ∧ Below w.heap.size w w' := by
  have H1 := Lib.hid h1
  have H2 := Lib.hid h2
  have H3 := Lib.hid h3
  obtain ⟨a0, a1, b0, b1⟩ := h1
  obtain ⟨s0, s1, t0, t1⟩ := h3
  have p1 := sq_bd a a0 a1
  have p2 := sq_bd b b0 b1
  have p3 := sq_bd s s0 s1
  have p4 := sq_bd t t0 t1
  clear h2
  go_enter Try.func25, Try.ntmps25
  go_wp2_with fail
  refine (rinside_yes a b H1.out _).mono ?_
  rintro e w1 ⟨rfl, hb⟩
  have HB1 := Lib.hid (((Below.refl w.heap.size w).alloc (Nat.le_refl _) (.cells #[.int .i64 a, .int .i64 b, .int .i64 c, .int .i64 d, .int .i64 s, .int .i64 t] 25)).trans (hb.mono (by simp)))
  have c10 := (hb.cell (p := ⟨w.heap.size, 0, none⟩) (by simp)).trans (show _ = some (.int .i64 a) by simp [go_sem])
  have c11 := (hb.cell (p := ⟨w.heap.size, 1, none⟩) (by simp)).trans (show _ = some (.int .i64 b) by simp [go_sem])
  have c12 := (hb.cell (p := ⟨w.heap.size, 2, none⟩) (by simp)).trans (show _ = some (.int .i64 c) by simp [go_sem])
  have c13 := (hb.cell (p := ⟨w.heap.size, 3, none⟩) (by simp)).trans (show _ = some (.int .i64 d) by simp [go_sem])
  have c14 := (hb.cell (p := ⟨w.heap.size, 4, none⟩) (by simp)).trans (show _ = some (.int .i64 s) by simp [go_sem])
  have c15 := (hb.cell (p := ⟨w.heap.size, 5, none⟩) (by simp)).trans (show _ = some (.int .i64 t) by simp [go_sem])
  have z := hb.size
  simp only [World.size_alloc] at z
  have z1 : w.heap.size < w1.heap.size := by omega
  clear hb z
  go_wp2_with fail
  refine (rinside_yes c d H2.out _).mono ?_
  rintro e w2 ⟨rfl, hb⟩
  have c20 := (hb.cell (p := ⟨w.heap.size, 0, none⟩) z1).trans c10
  have c21 := (hb.cell (p := ⟨w.heap.size, 1, none⟩) z1).trans c11
  have c22 := (hb.cell (p := ⟨w.heap.size, 2, none⟩) z1).trans c12
  have c23 := (hb.cell (p := ⟨w.heap.size, 3, none⟩) z1).trans c13
  have c24 := (hb.cell (p := ⟨w.heap.size, 4, none⟩) z1).trans c14
  have c25 := (hb.cell (p := ⟨w.heap.size, 5, none⟩) z1).trans c15
  have z2 : w.heap.size < w2.heap.size := Nat.lt_of_lt_of_le z1 hb.size
  have HB2 := Lib.hid (HB1.out.trans (hb.mono (Nat.le_of_lt z1)))
  clear hb
  go_wp2_with fail
  refine (rinside_yes s t H3.out _).mono ?_
  rintro e w3 ⟨rfl, hb⟩
  have c30 := (hb.cell (p := ⟨w.heap.size, 0, none⟩) z2).trans c20
  have c31 := (hb.cell (p := ⟨w.heap.size, 1, none⟩) z2).trans c21
  have c32 := (hb.cell (p := ⟨w.heap.size, 2, none⟩) z2).trans c22
  have c33 := (hb.cell (p := ⟨w.heap.size, 3, none⟩) z2).trans c23
  have c34 := (hb.cell (p := ⟨w.heap.size, 4, none⟩) z2).trans c24
  have c35 := (hb.cell (p := ⟨w.heap.size, 5, none⟩) z2).trans c25
  have z3 : w.heap.size < w3.heap.size := Nat.lt_of_lt_of_le z2 hb.size
  have HB3 := Lib.hid (HB2.out.trans (hb.mono (Nat.le_of_lt z2)))
  clear hb
  go_wp2_with fail
  go_region_held3 (fun w' => w'.cell? ⟨w.heap.size, 0, none⟩ = some (.int .i64 a) ∧ w'.cell? ⟨w.heap.size, 1, none⟩ = some (.int .i64 b) ∧ w'.cell? ⟨w.heap.size, 4, none⟩ = some (.int .i64 s) ∧ w'.cell? ⟨w.heap.size, 5, none⟩ = some (.int .i64 t)) (first | exact ⟨by assumption, by assumption, by assumption, by assumption⟩ | (simp [go_sem, *]; done))
    (first
      | (go_at_call 112; refine (rpower_any _ _ (by first | exact H1.out | exact H3.out) _).mono ?_; rintro e w2 ⟨rfl, hb2⟩; have G0 := (hb2.cell (p := ⟨w.heap.size, 0, none⟩) (by assumption)).trans (by assumption); have G1 := (hb2.cell (p := ⟨w.heap.size, 1, none⟩) (by assumption)).trans (by assumption); have G4 := (hb2.cell (p := ⟨w.heap.size, 4, none⟩) (by assumption)).trans (by assumption); have G5 := (hb2.cell (p := ⟨w.heap.size, 5, none⟩) (by assumption)).trans (by assumption); have z2 : w.heap.size < w2.heap.size := Nat.lt_of_lt_of_le (by assumption) hb2.size; have HC := Lib.hid (show Below w.heap.size w _ by first | exact (Hid.out ‹Hid (Below w.heap.size w _)›).trans (hb2.mono (by omega)) | exact (Hid.out ‹Hid (Below w.heap.size w _)›).drew.trans (hb2.mono (Nat.le_of_lt (by assumption)))); clear hb2))
  go_wp2_with fail
  refine (rshare_any _ _ (by omega) (by omega) (by omega) _).mono ?_
  rintro e w3 ⟨rfl, rfl⟩
  go_wp2_with fail
  go_ret2
  exact ⟨rfl, HC.out⟩
theorem rCode_no (a b c d s t : Int) (w : World) (h : ¬ (InB (a, b) ∧ InB (c, d) ∧ InB (s, t))) :
    Calls Try.prog 25 #[.agg #[.int .i64 a, .int .i64 b, .int .i64 c, .int .i64 d, .int .i64 s, .int .i64 t]] w fun e w' => e = .returned (.tuple #[.int .i64 0, .int .i64 2]) ∧ Below w.heap.size w w' := by
  have h3 : ¬ InB (a, b) ∨ (InB (a, b) ∧ ¬ InB (c, d)) ∨ (InB (a, b) ∧ InB (c, d) ∧ ¬ InB (s, t)) := by
    by_cases k1 : InB (a, b)
    · by_cases k2 : InB (c, d)
      · exact Or.inr (Or.inr ⟨k1, k2, fun k3 => h ⟨k1, k2, k3⟩⟩)
      · exact Or.inr (Or.inl ⟨k1, k2⟩)
    · exact Or.inl k1
  clear h
  rcases h3 with h | ⟨h1, h⟩ | ⟨h1, h2, h⟩
  · have H := Lib.hid h
    clear h
    go_enter Try.func25, Try.ntmps25
    go_wp2_with fail
    refine (rinside_no a b H.out _).mono ?_
    rintro e w1 ⟨rfl, hb⟩
    have HB1 := Lib.hid (((Below.refl w.heap.size w).alloc (Nat.le_refl _) (.cells #[.int .i64 a, .int .i64 b, .int .i64 c, .int .i64 d, .int .i64 s, .int .i64 t] 25)).trans (hb.mono (by simp)))
    have c10 := (hb.cell (p := ⟨w.heap.size, 0, none⟩) (by simp)).trans (show _ = some (.int .i64 a) by simp [go_sem])
    have c11 := (hb.cell (p := ⟨w.heap.size, 1, none⟩) (by simp)).trans (show _ = some (.int .i64 b) by simp [go_sem])
    have c12 := (hb.cell (p := ⟨w.heap.size, 2, none⟩) (by simp)).trans (show _ = some (.int .i64 c) by simp [go_sem])
    have c13 := (hb.cell (p := ⟨w.heap.size, 3, none⟩) (by simp)).trans (show _ = some (.int .i64 d) by simp [go_sem])
    have c14 := (hb.cell (p := ⟨w.heap.size, 4, none⟩) (by simp)).trans (show _ = some (.int .i64 s) by simp [go_sem])
    have c15 := (hb.cell (p := ⟨w.heap.size, 5, none⟩) (by simp)).trans (show _ = some (.int .i64 t) by simp [go_sem])
    have z := hb.size
    simp only [World.size_alloc] at z
    have z1 : w.heap.size < w1.heap.size := by omega
    clear hb z
    go_wp2_with fail
    go_ret2
    exact ⟨rfl, HB1.out⟩
  · have H := Lib.hid h
    have H1 := Lib.hid h1
    clear h h1
    go_enter Try.func25, Try.ntmps25
    go_wp2_with fail
    refine (rinside_yes a b H1.out _).mono ?_
    rintro e w1 ⟨rfl, hb⟩
    have HB1 := Lib.hid (((Below.refl w.heap.size w).alloc (Nat.le_refl _) (.cells #[.int .i64 a, .int .i64 b, .int .i64 c, .int .i64 d, .int .i64 s, .int .i64 t] 25)).trans (hb.mono (by simp)))
    have c10 := (hb.cell (p := ⟨w.heap.size, 0, none⟩) (by simp)).trans (show _ = some (.int .i64 a) by simp [go_sem])
    have c11 := (hb.cell (p := ⟨w.heap.size, 1, none⟩) (by simp)).trans (show _ = some (.int .i64 b) by simp [go_sem])
    have c12 := (hb.cell (p := ⟨w.heap.size, 2, none⟩) (by simp)).trans (show _ = some (.int .i64 c) by simp [go_sem])
    have c13 := (hb.cell (p := ⟨w.heap.size, 3, none⟩) (by simp)).trans (show _ = some (.int .i64 d) by simp [go_sem])
    have c14 := (hb.cell (p := ⟨w.heap.size, 4, none⟩) (by simp)).trans (show _ = some (.int .i64 s) by simp [go_sem])
    have c15 := (hb.cell (p := ⟨w.heap.size, 5, none⟩) (by simp)).trans (show _ = some (.int .i64 t) by simp [go_sem])
    have z := hb.size
    simp only [World.size_alloc] at z
    have z1 : w.heap.size < w1.heap.size := by omega
    clear hb z
    go_wp2_with fail
    refine (rinside_no c d H.out _).mono ?_
    rintro e w2 ⟨rfl, hb⟩
    have c20 := (hb.cell (p := ⟨w.heap.size, 0, none⟩) z1).trans c10
    have c21 := (hb.cell (p := ⟨w.heap.size, 1, none⟩) z1).trans c11
    have c22 := (hb.cell (p := ⟨w.heap.size, 2, none⟩) z1).trans c12
    have c23 := (hb.cell (p := ⟨w.heap.size, 3, none⟩) z1).trans c13
    have c24 := (hb.cell (p := ⟨w.heap.size, 4, none⟩) z1).trans c14
    have c25 := (hb.cell (p := ⟨w.heap.size, 5, none⟩) z1).trans c15
    have z2 : w.heap.size < w2.heap.size := Nat.lt_of_lt_of_le z1 hb.size
    have HB2 := Lib.hid (HB1.out.trans (hb.mono (Nat.le_of_lt z1)))
    clear hb
    go_wp2_with fail
    go_ret2
    exact ⟨rfl, HB2.out⟩
  · have H := Lib.hid h
    have H1 := Lib.hid h1
    have H2 := Lib.hid h2
    clear h h1 h2
    go_enter Try.func25, Try.ntmps25
    go_wp2_with fail
    refine (rinside_yes a b H1.out _).mono ?_
    rintro e w1 ⟨rfl, hb⟩
    have HB1 := Lib.hid (((Below.refl w.heap.size w).alloc (Nat.le_refl _) (.cells #[.int .i64 a, .int .i64 b, .int .i64 c, .int .i64 d, .int .i64 s, .int .i64 t] 25)).trans (hb.mono (by simp)))
    have c10 := (hb.cell (p := ⟨w.heap.size, 0, none⟩) (by simp)).trans (show _ = some (.int .i64 a) by simp [go_sem])
    have c11 := (hb.cell (p := ⟨w.heap.size, 1, none⟩) (by simp)).trans (show _ = some (.int .i64 b) by simp [go_sem])
    have c12 := (hb.cell (p := ⟨w.heap.size, 2, none⟩) (by simp)).trans (show _ = some (.int .i64 c) by simp [go_sem])
    have c13 := (hb.cell (p := ⟨w.heap.size, 3, none⟩) (by simp)).trans (show _ = some (.int .i64 d) by simp [go_sem])
    have c14 := (hb.cell (p := ⟨w.heap.size, 4, none⟩) (by simp)).trans (show _ = some (.int .i64 s) by simp [go_sem])
    have c15 := (hb.cell (p := ⟨w.heap.size, 5, none⟩) (by simp)).trans (show _ = some (.int .i64 t) by simp [go_sem])
    have z := hb.size
    simp only [World.size_alloc] at z
    have z1 : w.heap.size < w1.heap.size := by omega
    clear hb z
    go_wp2_with fail
    refine (rinside_yes c d H2.out _).mono ?_
    rintro e w2 ⟨rfl, hb⟩
    have c20 := (hb.cell (p := ⟨w.heap.size, 0, none⟩) z1).trans c10
    have c21 := (hb.cell (p := ⟨w.heap.size, 1, none⟩) z1).trans c11
    have c22 := (hb.cell (p := ⟨w.heap.size, 2, none⟩) z1).trans c12
    have c23 := (hb.cell (p := ⟨w.heap.size, 3, none⟩) z1).trans c13
    have c24 := (hb.cell (p := ⟨w.heap.size, 4, none⟩) z1).trans c14
    have c25 := (hb.cell (p := ⟨w.heap.size, 5, none⟩) z1).trans c15
    have z2 : w.heap.size < w2.heap.size := Nat.lt_of_lt_of_le z1 hb.size
    have HB2 := Lib.hid (HB1.out.trans (hb.mono (Nat.le_of_lt z1)))
    clear hb
    go_wp2_with fail
    refine (rinside_no s t H.out _).mono ?_
    rintro e w3 ⟨rfl, hb⟩
    have c30 := (hb.cell (p := ⟨w.heap.size, 0, none⟩) z2).trans c20
    have c31 := (hb.cell (p := ⟨w.heap.size, 1, none⟩) z2).trans c21
    have c32 := (hb.cell (p := ⟨w.heap.size, 2, none⟩) z2).trans c22
    have c33 := (hb.cell (p := ⟨w.heap.size, 3, none⟩) z2).trans c23
    have c34 := (hb.cell (p := ⟨w.heap.size, 4, none⟩) z2).trans c24
    have c35 := (hb.cell (p := ⟨w.heap.size, 5, none⟩) z2).trans c25
    have z3 : w.heap.size < w3.heap.size := Nat.lt_of_lt_of_le z2 hb.size
    have HB3 := Lib.hid (HB2.out.trans (hb.mono (Nat.le_of_lt z2)))
    clear hb
    go_wp2_with fail
    go_ret2
    exact ⟨rfl, HB3.out⟩
theorem awake_any (w : World) :
    Calls Try.prog 32 #[] w fun e w' => e = .returned (.bool true) ∧ Below w.heap.size w w' := by
  have i1 : InB (2, 0) := by unfold InB; simp
  have i0 : InB (0, 0) := by unfold InB; simp
  have i2 : InB (0, 1) := by unfold InB; simp
  have i3 : InB (0, -1) := by unfold InB; simp
  have i4 : InB (3, 1) := by unfold InB; simp
  have e1 : codeF 2 0 0 1 = 614 := by decide
  have e2 : fullF (Ang.fineF 0 (-1)) = -1024 := by decide +kernel
  have e3 : shareF (3 * 3 - 1 * 1) (3 * 3 + 1 * 1) = 819 := by decide
  have I0 := Lib.hid i0
  have I1 := Lib.hid i1
  have I2 := Lib.hid i2
  have I3 := Lib.hid i3
  have I4 := Lib.hid i4
  have E1 := Lib.hid e1
  have E2 := Lib.hid e2
  have E3 := Lib.hid e3
  clear i0 i1 i2 i3 i4 e1 e2 e3
  go_enter Try.func32, Try.ntmps32
  go_wp2_with fail
  refine (Code_yes _ _ _ _ _ _ _ I1.out I0.out I2.out).mono ?_
  rintro e w1 ⟨rfl, hb1⟩
  rw [E1.out]
  go_wp2_with fail
  refine (Full_yes _ _ _ I3.out).mono ?_
  rintro e w2 ⟨rfl, hb2⟩
  rw [E2.out]
  go_wp2_with fail
  refine (Lock_yes _ _ _ I4.out).mono ?_
  rintro e w3 ⟨rfl, hb3⟩
  rw [E3.out]
  go_wp2_with fail
  go_ret
  exact ⟨rfl, (hb1.trans (hb2.mono hb1.size)).trans (hb3.mono (Nat.le_trans hb1.size hb2.size))⟩
end Go.Proofs.Ytgehbebjgmeccaa
