/- Contracts of functions of the program and of its reference, out of walks. Their conditions stand ahead of each. -/
import Derived.Test.YtgehbebjgmeccaaW30
set_option linter.unusedVariables false
set_option linter.unusedSimpArgs false
namespace Go.Proofs.Ytgehbebjgmeccaa
open Go.RowKit
theorem adv_twice (p s m n : Int) : advF (advF p s m) s n = advF p s (wrap64 (m + n)) := by
  unfold advF
  have h : ∃ k : Int, wrap64 (m + n) = m + n + 4294967296 * k := by
    unfold wrap64; exact ⟨-((m + n + 9223372036854775808) / 18446744073709551616) * 4294967296, by omega⟩
  obtain ⟨k, hk⟩ := h
  rw [hk, show p + s * (m + n + 4294967296 * k) = p + s * m + s * n + 4294967296 * (s * k) from by grind]
  rw [Int.add_mul_emod_self_left, Int.add_emod, Int.emod_emod_of_dvd _ (Int.dvd_refl _), ← Int.add_emod]
theorem adv_bd (p s n : Int) : 0 ≤ advF p s n ∧ advF p s n < 4294967296 := by unfold advF; omega
theorem adv_delta (p s : Int) (h0 : 0 ≤ p) (h1 : p < 4294967296) (g0 : 0 ≤ s) (g1 : s < 4294967296) :
    -2147483648 ≤ (advF p s 1 - p + 2147483648) % 4294967296 - 2147483648 ∧ (advF p s 1 - p + 2147483648) % 4294967296 - 2147483648 < 2147483648 ∧ ((advF p s 1 - p + 2147483648) % 4294967296 - 2147483648) % 4294967296 = s := by
  unfold advF; rw [Int.mul_one]; omega
theorem norm_bd (k : Int) : 16020 ≤ Ang.ti k * Ang.ti k + Ang.tq k * Ang.tq k ∧ Ang.ti k * Ang.ti k + Ang.tq k * Ang.tq k ≤ 16277 := by
  have h := Ang.cases64 (P := fun m => 16020 ≤ Ang.ti m * Ang.ti m + Ang.tq m * Ang.tq m ∧ Ang.ti m * Ang.ti m + Ang.tq m * Ang.tq m ≤ 16277) (k % 64) (by omega) (by omega) (by decide)
  have e : Ang.ti (k % 64) = Ang.ti k ∧ Ang.tq (k % 64) = Ang.tq k := by
    unfold Ang.ti Ang.tq; rw [show k % 64 % 64 = k % 64 from by omega]; exact ⟨rfl, rfl⟩
  rw [e.1, e.2] at h
  exact h
theorem wI (M k : Int) : M * Ang.ti k * Ang.ti k + M * Ang.tq k * Ang.tq k = M * (Ang.ti k * Ang.ti k + Ang.tq k * Ang.tq k) := by grind
theorem wQ (M k : Int) : M * Ang.tq k * Ang.ti k - M * Ang.ti k * Ang.tq k = 0 := by grind
theorem turns_walk (p s m n amp : Int) (h : 0 ≤ p) (h' : p < 4294967296) (g : 0 ≤ s) (g' : s < 4294967296) (w : World) :
    Calls Try.prog 14 #[.int .u32 p, .int .u32 s, .int .i64 m, .int .i64 n, .int .i64 amp] w fun e w' => e = .returned (.bool true) ∧ Below w.heap.size w w' := by
  obtain ⟨d0, d1, d2⟩ := adv_delta p s h h' g g'
  have T2 := Lib.hid (adv_twice p s m n)
  have D2 := Lib.hid d2
  clear d2
  go_enter Try.func14, Try.ntmps14
  go_wp2_with fail
  refine (Advance_any p s m _).mono ?_
  rintro e w1 ⟨rfl, rfl⟩
  go_wp2_with fail
  refine (Advance_any _ s n _).mono ?_
  rintro e w1 ⟨rfl, rfl⟩
  rw [T2.out]
  go_wp2_with fail
  refine (Advance_any p s 1 _).mono ?_
  rintro e w1 ⟨rfl, rfl⟩
  go_wp2_with fail
  refine (Delta_any _ p (adv_bd _ _ _).1 (adv_bd _ _ _).2 h h' _).mono ?_
  rintro e w1 ⟨rfl, rfl⟩
  generalize (advF p s 1 - p + 2147483648) % 4294967296 - 2147483648 = D at *
  go_wp2_with fail
  refine (pick_any amp 1000 (by omega) (by omega) _).mono ?_
  rintro e w1 ⟨rfl, rfl⟩
  have k0 : 0 ≤ amp % 1000 := by omega
  have k1 : amp % 1000 < 1000 := by omega
  generalize amp % 1000 = K at *
  go_wp2_with fail
  refine (Carrier_any p h h' _).mono ?_
  rintro e w1 ⟨rfl, hb⟩
  obtain ⟨t0, t1, t2, t3⟩ := ti_bd (p / 67108864)
  obtain ⟨n0, n1⟩ := norm_bd (p / 67108864)
  have HB := Lib.hid hb
  clear hb
  have m0 : 1 ≤ 1 + K := by omega
  have m1 : 1 + K ≤ 1000 := by omega
  generalize 1 + K = M at *
  have WI := Lib.hid (wI M (p / 67108864))
  have WQ := Lib.hid (wQ M (p / 67108864))
  obtain ⟨p0, p1⟩ := mulbd M (Ang.ti (p / 67108864)) 1000 127 (by omega) m1 t0 t1
  obtain ⟨p2, p3⟩ := mulbd M (Ang.tq (p / 67108864)) 1000 127 (by omega) m1 t2 t3
  have b3 := mulbd (Ang.ti (p / 67108864)) (Ang.ti (p / 67108864)) 127 127 t0 t1 t0 t1
  have b4 := mulbd (Ang.tq (p / 67108864)) (Ang.tq (p / 67108864)) 127 127 t2 t3 t2 t3
  have b5 := mulbd M (Ang.ti (p / 67108864) * Ang.ti (p / 67108864) + Ang.tq (p / 67108864) * Ang.tq (p / 67108864)) 1000 16277 (by omega) m1 (by omega) n1
  have b6 := Int.mul_le_mul_of_nonneg_left n0 (show 0 ≤ M by omega)
  have b7 := Int.mul_le_mul_of_nonneg_left n1 (show 0 ≤ M by omega)
  go_wp2_with fail
  refine (Wipe_yes (M * Ang.ti (p / 67108864)) (M * Ang.tq (p / 67108864)) p h h' ⟨by omega, by omega, by omega, by omega⟩ _).mono ?_
  rintro e w2 ⟨rfl, hb⟩
  rw [WI.out, WQ.out]
  clear WI WQ
  have HT0 := Lib.hid (rfl : Ang.ti (p / 67108864) = Ang.ti (p / 67108864))
  clear HT0
  generalize Ang.ti (p / 67108864) = T at *
  generalize Ang.tq (p / 67108864) = U at *
  have a0 := (hb.cell (p := ⟨w1.heap.size, 0, none⟩) (by simp)).trans (show _ = some (.int .i64 T) by simp [go_sem])
  have a1 := (hb.cell (p := ⟨w1.heap.size, 1, none⟩) (by simp)).trans (show _ = some (.int .i64 U) by simp [go_sem])
  have zz := hb.size
  simp only [World.size_alloc] at zz
  have z1 : w1.heap.size < w2.heap.size := by omega
  have HC := Lib.hid ((HB.out.alloc HB.out.size (.cells #[.int .i64 T, .int .i64 U] 23)).trans (hb.mono (Nat.le_trans HB.out.size (by simp))))
  clear hb zz
  obtain ⟨b30, b31⟩ := b3
  obtain ⟨b40, b41⟩ := b4
  obtain ⟨b50, b51⟩ := b5
  generalize hR : M * (T * T + U * U) = R at *
  have HR := Lib.hid hR
  clear hR
  go_wp2_with fail
  refine (lives_any _).mono ?_
  rintro e w3 ⟨rfl, hb⟩
  have c0 := (hb.cell (p := ⟨w1.heap.size, 0, none⟩) (by simp; omega)).trans (show _ = some (.int .i64 T) by go_simp)
  have c1 := (hb.cell (p := ⟨w1.heap.size, 1, none⟩) (by simp; omega)).trans (show _ = some (.int .i64 U) by go_simp)
  have d3 := (hb.cell (p := ⟨w2.heap.size, 0, none⟩) (by simp)).trans (show _ = some (.int .i64 R) by simp [go_sem])
  have d4 := (hb.cell (p := ⟨w2.heap.size, 1, none⟩) (by simp)).trans (show _ = some (.int .i64 0) by simp [go_sem])
  have zz := hb.size
  simp only [World.size_alloc] at zz
  have v1 : w1.heap.size < w3.heap.size := by omega
  have v2 : w2.heap.size < w3.heap.size := by omega
  have HD := Lib.hid ((HC.out.alloc HC.out.size (.cells #[.int .i64 R, .int .i64 0] 23)).trans (hb.mono (Nat.le_trans HC.out.size (by simp))))
  clear hb zz a0 a1 z1
  go_wp2_with fail
  refine (Advance_any p s (wrap64 (m + n)) _).mono ?_
  rintro e w4 ⟨rfl, rfl⟩
  have hd := D2.out
  have hR2 := HR.out
  go_wp2_with fail
  all_goals go_ret
  all_goals exact ⟨by simp; omega, HD.out⟩
end Go.Proofs.Ytgehbebjgmeccaa
