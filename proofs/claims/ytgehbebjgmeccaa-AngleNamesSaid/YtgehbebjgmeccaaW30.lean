/- Contracts of functions of the program and of its reference, out of walks. Their conditions stand ahead of each. -/
import Derived.Test.YtgehbebjgmeccaaW29
import Derived.Test.YtgehbebjgmeccaaW10
set_option linter.unusedVariables false
set_option linter.unusedSimpArgs false
namespace Go.Proofs.Ytgehbebjgmeccaa
open Go.RowKit
def advF (p s n : Int) : Int := (p + s * n) % 4294967296
theorem ret_u32 {a b : Int} (h : a = b) : Ending.returned (.int .u32 a) = .returned (.int .u32 b) := by rw [h]
theorem adv1 (p s n : Int) : (p + s * (n % 4294967296) % 4294967296) % 4294967296 = advF p s n := by
  unfold advF
  rw [Int.mul_emod, Int.emod_emod_of_dvd n (Int.dvd_refl _), ← Int.mul_emod, Int.add_emod, Int.emod_emod_of_dvd _ (Int.dvd_refl _), ← Int.add_emod]
theorem Advance_any (p s n : Int) (w : World) :
    Calls Try.prog 63 #[.int .u32 p, .int .u32 s, .int .i64 n] w fun e w' => e = .returned (.int .u32 (advF p s n)) ∧ w = w' := by
  have h := adv1 p s n
  have H := Lib.hid h
  clear h
  go_enter Try.func63, Try.ntmps63
  go_wp2_with fail
  go_ret
  exact ⟨ret_u32 H.out, rfl⟩
theorem rAdvance_any (p s n : Int) (w : World) :
    Calls Try.prog 64 #[.int .u32 p, .int .u32 s, .int .i64 n] w fun e w' => e = .returned (.int .u32 (advF p s n)) ∧ w = w' := by
  have h := adv1 p s n
  rw [Int.mul_comm s] at h
  have H := Lib.hid h
  clear h
  go_enter Try.func64, Try.ntmps64
  go_wp2_with fail
  go_ret
  exact ⟨ret_u32 H.out, rfl⟩
theorem rDelta_any (a b : Int) (w : World) :
    Calls Try.prog 66 #[.int .u32 a, .int .u32 b] w fun e w' => e = .returned (.int .i64 ((a - b + 2147483648) % 4294967296 - 2147483648)) ∧ w = w' := by
  go_enter Try.func66, Try.ntmps66
  go_wp2_with fail
  go_ret
  exact ⟨ret_int (by unfold wrap64 wrap32; omega), rfl⟩
theorem rCarrier_any (p : Int) (h : 0 ≤ p) (h' : p < 4294967296) (w : World) :
    Calls Try.prog 62 #[.int .u32 p] w fun e w' => e = .returned (.agg #[.int .i64 (Ang.ti (p / 67108864)), .int .i64 (Ang.tq (p / 67108864))]) ∧ Below w.heap.size w w' := by
  go_enter Try.func62, Try.ntmps62
  go_wp2_with fail
  refine (rentry_any _ _).mono ?_
  rintro e w1 ⟨rfl, hb⟩
  obtain ⟨c1, f1, z1⟩ := step2 (b := w.heap.size) hb (by simp)
  have r0 := (c1 0).trans (show _ = some (.int .i64 0) by simp [go_sem])
  have r1 := (c1 1).trans (show _ = some (.int .i64 0) by simp [go_sem])
  have s0 := (f1 0).trans (show _ = false by simp [go_sem])
  have s1 := (f1 1).trans (show _ = false by simp [go_sem])
  have HB := Lib.hid (((Below.refl w.heap.size w).alloc (Nat.le_refl _) (.cells #[.int .i64 0, .int .i64 0] 23)).trans (hb.mono (by simp)))
  clear hb c1 f1
  go_wp2_with fail
  refine bodyPost_ret (v := .agg #[.int .i64 (Ang.ti (p / 67108864)), .int .i64 (Ang.tq (p / 67108864))]) (by simp [results, Try.results62, go_sem, r0, r1]) rfl ⟨rfl, ?_⟩
  exact (HB.out.setCell (Nat.le_refl _) _).setCell (Nat.le_refl _) _
def Sm (x y : Int) : Prop := -70368744177664 ≤ x ∧ x ≤ 70368744177664 ∧ -70368744177664 ≤ y ∧ y ≤ 70368744177664
theorem Wipe_yes (x y p : Int) (h : 0 ≤ p) (h' : p < 4294967296) (hs : Sm x y) (w : World) :
    Calls Try.prog 59 #[.agg #[.int .i64 x, .int .i64 y], .int .u32 p] w fun e w' => e = .returned (.tuple #[.agg #[.int .i64 (x * Ang.ti (p / 67108864) + y * Ang.tq (p / 67108864)), .int .i64 (y * Ang.ti (p / 67108864) - x * Ang.tq (p / 67108864))], .int .i64 0]) ∧ Below w.heap.size w w' := by
  obtain ⟨x0, x1, y0, y1⟩ := hs
  obtain ⟨t0, t1, t2, t3⟩ := ti_bd (p / 67108864)
  obtain ⟨p0, p1⟩ := mulbd x (Ang.ti (p / 67108864)) 70368744177664 127 x0 x1 t0 t1
  obtain ⟨p2, p3⟩ := mulbd y (Ang.tq (p / 67108864)) 70368744177664 127 y0 y1 t2 t3
  obtain ⟨p4, p5⟩ := mulbd y (Ang.ti (p / 67108864)) 70368744177664 127 y0 y1 t0 t1
  obtain ⟨p6, p7⟩ := mulbd x (Ang.tq (p / 67108864)) 70368744177664 127 x0 x1 t2 t3
  go_enter Try.func59, Try.ntmps59
  go_wp2_with fail
  refine (small_yes x y ⟨x0, x1⟩ ⟨y0, y1⟩ _).mono ?_
  rintro e w1 ⟨rfl, hb⟩
  have a0 := (hb.cell (p := ⟨w.heap.size, 0, none⟩) (by simp; omega)).trans (show _ = some (.int .i64 x) by simp [go_sem])
  have a1 := (hb.cell (p := ⟨w.heap.size, 1, none⟩) (by simp; omega)).trans (show _ = some (.int .i64 y) by simp [go_sem])
  obtain ⟨c1, f1, z1⟩ := step2 (b := w.heap.size + 1) hb (by simp)
  have r0 := (c1 0).trans (show _ = some (.int .i64 0) by simp [go_sem])
  have r1 := (c1 1).trans (show _ = some (.int .i64 0) by simp [go_sem])
  have s0 := (f1 0).trans (show _ = false by simp [go_sem])
  have s1 := (f1 1).trans (show _ = false by simp [go_sem])
  have z0 : w.heap.size < w1.heap.size := by omega
  have HB := Lib.hid ((((Below.refl w.heap.size w).alloc (Nat.le_refl _) (.cells #[.int .i64 x, .int .i64 y] 23)).alloc (by simp) (.cells #[.int .i64 0, .int .i64 0] 23)).trans (hb.mono (by simp; omega)))
  clear hb c1 f1
  go_wp2_with fail
  refine (Carrier_any p h h' _).mono ?_
  rintro e w2 ⟨rfl, hb⟩
  have b0 := (hb.cell (p := ⟨w.heap.size, 0, none⟩) z0).trans a0
  have b1 := (hb.cell (p := ⟨w.heap.size, 1, none⟩) z0).trans a1
  obtain ⟨c1, f1, z2⟩ := step2 (b := w.heap.size + 1) hb z1
  have q0 := (c1 0).trans r0
  have q1 := (c1 1).trans r1
  have u0 := (f1 0).trans s0
  have u1 := (f1 1).trans s1
  have z3 : w.heap.size < w2.heap.size := by omega
  have HC := Lib.hid (HB.out.trans (hb.mono HB.out.size))
  clear hb c1 f1 a0 a1 r0 r1 s0 s1 z0 z1
  generalize hT : Ang.ti (p / 67108864) = T at *
  generalize hU : Ang.tq (p / 67108864) = U at *
  have HT := Lib.hid hT
  have HU := Lib.hid hU
  clear hT hU
  go_wp2_with fail
  rw [HT.out, HU.out]
  refine bodyPost_ret (v := .tuple #[.agg #[.int .i64 (x * T + y * U), .int .i64 (y * T - x * U)], .int .i64 0]) (by simp [results, Try.results59, go_sem, q0, q1, z2]) rfl ⟨rfl, ?_⟩
  exact ((HC.out.setCell (by simp) _).setCell (by simp) _).alloc (by simp; omega) _
theorem Wipe_no (x y p : Int) (h : 0 ≤ p) (h' : p < 4294967296) (hs : ¬ Sm x y) (w : World) :
    Calls Try.prog 59 #[.agg #[.int .i64 x, .int .i64 y], .int .u32 p] w fun e w' => e = .returned (.tuple #[.agg #[.int .i64 0, .int .i64 0], .int .i64 2]) ∧ Below w.heap.size w w' := by
  have HS := Lib.hid hs
  clear hs
  go_enter Try.func59, Try.ntmps59
  go_wp2_with fail
  refine (small_no x y HS.out _).mono ?_
  rintro e w1 ⟨rfl, hb⟩
  have a0 := (hb.cell (p := ⟨w.heap.size, 0, none⟩) (by simp; omega)).trans (show _ = some (.int .i64 x) by simp [go_sem])
  have a1 := (hb.cell (p := ⟨w.heap.size, 1, none⟩) (by simp; omega)).trans (show _ = some (.int .i64 y) by simp [go_sem])
  obtain ⟨c1, f1, z1⟩ := step2 (b := w.heap.size + 1) hb (by simp)
  have r0 := (c1 0).trans (show _ = some (.int .i64 0) by simp [go_sem])
  have r1 := (c1 1).trans (show _ = some (.int .i64 0) by simp [go_sem])
  have s0 := (f1 0).trans (show _ = false by simp [go_sem])
  have s1 := (f1 1).trans (show _ = false by simp [go_sem])
  have z0 : w.heap.size < w1.heap.size := by omega
  have HB := Lib.hid ((((Below.refl w.heap.size w).alloc (Nat.le_refl _) (.cells #[.int .i64 x, .int .i64 y] 23)).alloc (by simp) (.cells #[.int .i64 0, .int .i64 0] 23)).trans (hb.mono (by simp; omega)))
  clear hb c1 f1
  go_wp2_with fail
  refine bodyPost_ret (v := .tuple #[.agg #[.int .i64 0, .int .i64 0], .int .i64 2]) (by simp [results, Try.results59, go_sem, r0, r1]) rfl ⟨rfl, ?_⟩
  first | exact HB.out | exact (HB.out.setCell (by simp) _).setCell (by simp) _
theorem rWipe_yes (x y p : Int) (h : 0 ≤ p) (h' : p < 4294967296) (hs : Sm x y) (w : World) :
    Calls Try.prog 60 #[.agg #[.int .i64 x, .int .i64 y], .int .u32 p] w fun e w' => e = .returned (.tuple #[.agg #[.int .i64 (x * Ang.ti (p / 67108864) + y * Ang.tq (p / 67108864)), .int .i64 (y * Ang.ti (p / 67108864) - x * Ang.tq (p / 67108864))], .int .i64 0]) ∧ Below w.heap.size w w' := by
  obtain ⟨x0, x1, y0, y1⟩ := hs
  obtain ⟨t0, t1, t2, t3⟩ := ti_bd (p / 67108864)
  obtain ⟨p0, p1⟩ := mulbd x (Ang.ti (p / 67108864)) 70368744177664 127 x0 x1 t0 t1
  obtain ⟨p2, p3⟩ := mulbd y (Ang.tq (p / 67108864)) 70368744177664 127 y0 y1 t2 t3
  obtain ⟨p4, p5⟩ := mulbd y (Ang.ti (p / 67108864)) 70368744177664 127 y0 y1 t0 t1
  obtain ⟨p6, p7⟩ := mulbd x (Ang.tq (p / 67108864)) 70368744177664 127 x0 x1 t2 t3
  go_enter Try.func60, Try.ntmps60
  go_wp2_with fail
  refine (rsmall_yes x y ⟨x0, x1⟩ ⟨y0, y1⟩ _).mono ?_
  rintro e w1 ⟨rfl, hb⟩
  have a0 := (hb.cell (p := ⟨w.heap.size, 0, none⟩) (by simp; omega)).trans (show _ = some (.int .i64 x) by simp [go_sem])
  have a1 := (hb.cell (p := ⟨w.heap.size, 1, none⟩) (by simp; omega)).trans (show _ = some (.int .i64 y) by simp [go_sem])
  obtain ⟨c1, f1, z1⟩ := step2 (b := w.heap.size + 1) hb (by simp)
  have r0 := (c1 0).trans (show _ = some (.int .i64 0) by simp [go_sem])
  have r1 := (c1 1).trans (show _ = some (.int .i64 0) by simp [go_sem])
  have s0 := (f1 0).trans (show _ = false by simp [go_sem])
  have s1 := (f1 1).trans (show _ = false by simp [go_sem])
  have z0 : w.heap.size < w1.heap.size := by omega
  have HB := Lib.hid ((((Below.refl w.heap.size w).alloc (Nat.le_refl _) (.cells #[.int .i64 x, .int .i64 y] 23)).alloc (by simp) (.cells #[.int .i64 0, .int .i64 0] 23)).trans (hb.mono (by simp; omega)))
  clear hb c1 f1
  go_wp2_with fail
  refine (rCarrier_any p h h' _).mono ?_
  rintro e w2 ⟨rfl, hb⟩
  have b0 := (hb.cell (p := ⟨w.heap.size, 0, none⟩) z0).trans a0
  have b1 := (hb.cell (p := ⟨w.heap.size, 1, none⟩) z0).trans a1
  obtain ⟨c1, f1, z2⟩ := step2 (b := w.heap.size + 1) hb z1
  have q0 := (c1 0).trans r0
  have q1 := (c1 1).trans r1
  have u0 := (f1 0).trans s0
  have u1 := (f1 1).trans s1
  have z3 : w.heap.size < w2.heap.size := by omega
  have HC := Lib.hid (HB.out.trans (hb.mono HB.out.size))
  clear hb c1 f1 a0 a1 r0 r1 s0 s1 z0 z1
  generalize hT : Ang.ti (p / 67108864) = T at *
  generalize hU : Ang.tq (p / 67108864) = U at *
  have HT := Lib.hid hT
  have HU := Lib.hid hU
  clear hT hU
  go_wp2_with fail
  rw [HT.out, HU.out]
  refine bodyPost_ret (v := .tuple #[.agg #[.int .i64 (x * T + y * U), .int .i64 (y * T - x * U)], .int .i64 0]) (by simp [results, Try.results60, go_sem, q0, q1, z2]) rfl ⟨rfl, ?_⟩
  exact ((HC.out.setCell (by simp) _).setCell (by simp) _).alloc (by simp; omega) _
theorem rWipe_no (x y p : Int) (h : 0 ≤ p) (h' : p < 4294967296) (hs : ¬ Sm x y) (w : World) :
    Calls Try.prog 60 #[.agg #[.int .i64 x, .int .i64 y], .int .u32 p] w fun e w' => e = .returned (.tuple #[.agg #[.int .i64 0, .int .i64 0], .int .i64 2]) ∧ Below w.heap.size w w' := by
  have HS := Lib.hid hs
  clear hs
  go_enter Try.func60, Try.ntmps60
  go_wp2_with fail
  refine (rsmall_no x y HS.out _).mono ?_
  rintro e w1 ⟨rfl, hb⟩
  have a0 := (hb.cell (p := ⟨w.heap.size, 0, none⟩) (by simp; omega)).trans (show _ = some (.int .i64 x) by simp [go_sem])
  have a1 := (hb.cell (p := ⟨w.heap.size, 1, none⟩) (by simp; omega)).trans (show _ = some (.int .i64 y) by simp [go_sem])
  obtain ⟨c1, f1, z1⟩ := step2 (b := w.heap.size + 1) hb (by simp)
  have r0 := (c1 0).trans (show _ = some (.int .i64 0) by simp [go_sem])
  have r1 := (c1 1).trans (show _ = some (.int .i64 0) by simp [go_sem])
  have s0 := (f1 0).trans (show _ = false by simp [go_sem])
  have s1 := (f1 1).trans (show _ = false by simp [go_sem])
  have z0 : w.heap.size < w1.heap.size := by omega
  have HB := Lib.hid ((((Below.refl w.heap.size w).alloc (Nat.le_refl _) (.cells #[.int .i64 x, .int .i64 y] 23)).alloc (by simp) (.cells #[.int .i64 0, .int .i64 0] 23)).trans (hb.mono (by simp; omega)))
  clear hb c1 f1
  go_wp2_with fail
  refine bodyPost_ret (v := .tuple #[.agg #[.int .i64 0, .int .i64 0], .int .i64 2]) (by simp [results, Try.results60, go_sem, r0, r1]) rfl ⟨rfl, ?_⟩
  first | exact HB.out | exact (HB.out.setCell (by simp) _).setCell (by simp) _
open Classical in
noncomputable def smE (x y : Int) : Int := if Sm x y then 0 else 2
open Classical in
noncomputable def smV (x y v : Int) : Int := if Sm x y then v else 0
theorem smE_yes {x y : Int} (h : Sm x y) : smE x y = 0 := by unfold smE; rw [if_pos h]
theorem smE_no {x y : Int} (h : ¬ Sm x y) : smE x y = 2 := by unfold smE; rw [if_neg h]
theorem smV_yes {x y : Int} (h : Sm x y) (v : Int) : smV x y v = v := by unfold smV; rw [if_pos h]
theorem smV_no {x y : Int} (h : ¬ Sm x y) (v : Int) : smV x y v = 0 := by unfold smV; rw [if_neg h]
def wpI (x y p : Int) : Int := x * Ang.ti (p / 67108864) + y * Ang.tq (p / 67108864)
def wpQ (x y p : Int) : Int := y * Ang.ti (p / 67108864) - x * Ang.tq (p / 67108864)
theorem Wipe_any (x y p : Int) (h : 0 ≤ p) (h' : p < 4294967296) (w : World) :
    Calls Try.prog 59 #[.agg #[.int .i64 x, .int .i64 y], .int .u32 p] w fun e w' => e = .returned (.tuple #[.agg #[.int .i64 (smV x y (wpI x y p)), .int .i64 (smV x y (wpQ x y p))], .int .i64 (smE x y)]) ∧ Below w.heap.size w w' := by
  by_cases k : Sm x y
  · rw [smV_yes k, smV_yes k, smE_yes k]; exact Wipe_yes x y p h h' k w
  · rw [smV_no k, smV_no k, smE_no k]; exact Wipe_no x y p h h' k w
theorem rWipe_any (x y p : Int) (h : 0 ≤ p) (h' : p < 4294967296) (w : World) :
    Calls Try.prog 60 #[.agg #[.int .i64 x, .int .i64 y], .int .u32 p] w fun e w' => e = .returned (.tuple #[.agg #[.int .i64 (smV x y (wpI x y p)), .int .i64 (smV x y (wpQ x y p))], .int .i64 (smE x y)]) ∧ Below w.heap.size w w' := by
  by_cases k : Sm x y
  · rw [smV_yes k, smV_yes k, smE_yes k]; exact rWipe_yes x y p h h' k w
  · rw [smV_no k, smV_no k, smE_no k]; exact rWipe_no x y p h h' k w
theorem phases_walk (a b n x y : Int) (h : 0 ≤ a) (h' : a < 4294967296) (g : 0 ≤ b) (g' : b < 4294967296) (w : World) :
    Calls Try.prog 13 #[.int .u32 a, .int .u32 b, .int .i64 n, .agg #[.int .i64 x, .int .i64 y]] w fun e w' => e = .returned (.bool true) ∧ Below w.heap.size w w' := by
  go_enter Try.func13, Try.ntmps13
  go_wp2_with fail
  refine (Wipe_any x y a h h' _).mono ?_
  rintro e w1 ⟨rfl, hb⟩
  have a0 := (hb.cell (p := ⟨w.heap.size, 0, none⟩) (by simp)).trans (show _ = some (.int .i64 x) by simp [go_sem])
  have a1 := (hb.cell (p := ⟨w.heap.size, 1, none⟩) (by simp)).trans (show _ = some (.int .i64 y) by simp [go_sem])
  have zz := hb.size
  simp only [World.size_alloc] at zz
  have z0 : w.heap.size < w1.heap.size := by omega
  have HB := Lib.hid (((Below.refl w.heap.size w).alloc (Nat.le_refl _) (.cells #[.int .i64 x, .int .i64 y] 23)).trans (hb.mono (by simp)))
  clear hb zz
  go_wp2_with fail
  refine (rWipe_any x y a h h' _).mono ?_
  rintro e w2 ⟨rfl, hb⟩
  generalize smV x y (wpI x y a) = P at *
  generalize smV x y (wpQ x y a) = Q at *
  generalize smE x y = E at *
  have b0 := (hb.cell (p := ⟨w1.heap.size, 0, none⟩) (by simp)).trans (show _ = some (.int .i64 P) by simp [go_sem])
  have b1 := (hb.cell (p := ⟨w1.heap.size, 1, none⟩) (by simp)).trans (show _ = some (.int .i64 Q) by simp [go_sem])
  have zz := hb.size
  simp only [World.size_alloc] at zz
  have y1 : w1.heap.size < w2.heap.size := by omega
  have HC := Lib.hid ((HB.out.alloc HB.out.size (.cells #[.int .i64 P, .int .i64 Q] 23)).trans (hb.mono (Nat.le_trans HB.out.size (by simp))))
  clear hb zz a0 a1
  go_wp2_with fail
  refine (lives_any _).mono ?_
  rintro e w3 ⟨rfl, hb⟩
  have c0 := (hb.cell (p := ⟨w1.heap.size, 0, none⟩) (by simp; omega)).trans (show _ = some (.int .i64 P) by go_simp)
  have c1 := (hb.cell (p := ⟨w1.heap.size, 1, none⟩) (by simp; omega)).trans (show _ = some (.int .i64 Q) by go_simp)
  have d0 := (hb.cell (p := ⟨w2.heap.size, 0, none⟩) (by simp)).trans (show _ = some (.int .i64 P) by simp [go_sem])
  have d1 := (hb.cell (p := ⟨w2.heap.size, 1, none⟩) (by simp)).trans (show _ = some (.int .i64 Q) by simp [go_sem])
  have zz := hb.size
  simp only [World.size_alloc] at zz
  have v1 : w1.heap.size < w3.heap.size := by omega
  have v2 : w2.heap.size < w3.heap.size := by omega
  have HD := Lib.hid ((HC.out.alloc HC.out.size (.cells #[.int .i64 P, .int .i64 Q] 23)).trans (hb.mono (Nat.le_trans HC.out.size (by simp))))
  clear hb zz b0 b1 y1 z0
  go_wp2_with fail
  refine (Carrier_any a h h' _).mono ?_
  rintro e w4 ⟨rfl, hb⟩
  have c04 := (hb.cell (p := ⟨w1.heap.size, 0, none⟩) v1).trans c0
  have c14 := (hb.cell (p := ⟨w1.heap.size, 1, none⟩) v1).trans c1
  have d04 := (hb.cell (p := ⟨w2.heap.size, 0, none⟩) v2).trans d0
  have d14 := (hb.cell (p := ⟨w2.heap.size, 1, none⟩) v2).trans d1
  have v14 := Nat.lt_of_lt_of_le v1 hb.size
  have v24 := Nat.lt_of_lt_of_le v2 hb.size
  have HD4 := Lib.hid (HD.out.trans (hb.mono HD.out.size))
  clear hb
  go_wp2_with fail
  refine (rCarrier_any a h h' _).mono ?_
  rintro e w5 ⟨rfl, hb⟩
  have c05 := (hb.cell (p := ⟨w1.heap.size, 0, none⟩) v14).trans c04
  have c15 := (hb.cell (p := ⟨w1.heap.size, 1, none⟩) v14).trans c14
  have d05 := (hb.cell (p := ⟨w2.heap.size, 0, none⟩) v24).trans d04
  have d15 := (hb.cell (p := ⟨w2.heap.size, 1, none⟩) v24).trans d14
  have v15 := Nat.lt_of_lt_of_le v14 hb.size
  have v25 := Nat.lt_of_lt_of_le v24 hb.size
  have HD5 := Lib.hid (HD4.out.trans (hb.mono HD4.out.size))
  clear hb
  go_wp2_with fail
  refine (Advance_any a b n _).mono ?_
  rintro e w6 ⟨rfl, rfl⟩
  go_wp2_with fail
  refine (rAdvance_any a b n _).mono ?_
  rintro e w6 ⟨rfl, rfl⟩
  go_wp2_with fail
  refine (Delta_any a b h h' g g' _).mono ?_
  rintro e w6 ⟨rfl, rfl⟩
  go_wp2_with fail
  refine (rDelta_any a b _).mono ?_
  rintro e w6 ⟨rfl, rfl⟩
  go_wp2_with fail
  go_ret
  exact ⟨rfl, HD5.out⟩
theorem wf_u32 {n : Int} (h : (Lit.int .u32 n).wf = true) : 0 ≤ n ∧ n < 4294967296 := by
  simp [Lit.wf, IntKind.min, IntKind.max, IntKind.signed, IntKind.bits] at h
  omega
theorem wf_i64 {n : Int} (h : (Lit.int .i64 n).wf = true) : -9223372036854775808 ≤ n ∧ n ≤ 9223372036854775807 := by
  simp [Lit.wf, IntKind.min, IntKind.max, IntKind.signed, IntKind.bits] at h
  omega
theorem wf_u64 {n : Int} (h : (Lit.int .u64 n).wf = true) : 0 ≤ n ∧ n < 18446744073709551616 := by
  simp [Lit.wf, IntKind.min, IntKind.max, IntKind.signed, IntKind.bits] at h
  omega
end Go.Proofs.Ytgehbebjgmeccaa
