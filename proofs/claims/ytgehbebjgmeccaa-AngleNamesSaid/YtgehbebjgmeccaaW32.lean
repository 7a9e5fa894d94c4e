/- Contracts of functions of the program and of its reference, out of walks. Their conditions stand ahead of each. -/
import Derived.Test.YtgehbebjgmeccaaW29
set_option linter.unusedVariables false
set_option linter.unusedSimpArgs false
namespace Go.Proofs.Ytgehbebjgmeccaa
open Go.RowKit
theorem rsize_any (a : Int) (h : -9223372036854775808 ≤ a) (h' : a ≤ 9223372036854775807) (w : World) :
    Calls Try.prog 134 #[.int .i64 a] w fun e w' => e = .returned (.int .u64 (az a)) ∧ w = w' := by
  by_cases g : a < 0
  · go_enter Try.func134, Try.ntmps134
    go_wp2_with fail
    go_ret
    exact ⟨ret_u64 (by unfold az; rw [if_pos g]; simp only [IntKind.wrap_u64]; omega), rfl⟩
  · go_enter Try.func134, Try.ntmps134
    go_wp2_with fail
    go_ret
    exact ⟨ret_u64 (by unfold az; rw [if_neg (by omega)]), rfl⟩
theorem rprod_nn (n : Int) (h : 0 ≤ n) (h' : n ≤ 9223372036854775807) (w : World) :
    Calls Try.prog 56 #[.int .i64 n, .int .i64 n] w fun e w' => e = .returned (.agg #[.int .i64 (n * n / 18446744073709551616), .int .u64 (n * n % 18446744073709551616)]) ∧ Below w.heap.size w w' := by
  have ea : az n = n := by unfold az; rw [if_neg (by omega)]
  have EA := Lib.hid ea
  clear ea
  have q0 := Int.mul_nonneg h h
  have q1 := Int.mul_le_mul h' h' h (by omega)
  have i0 : 0 ≤ n * n / 18446744073709551616 := by omega
  have i1 : n * n / 18446744073709551616 ≤ 4611686018427387904 := by omega
  clear q0 q1
  have tA : decide (n < 0) = false := by simp; omega
  go_enter Try.func56, Try.ntmps56
  go_wp2_with fail
  refine (rsize_any n (by omega) h' _).mono ?_
  rintro e w1 ⟨rfl, rfl⟩
  rw [EA.out]
  go_wp2_with fail
  refine (rsize_any n (by omega) h' _).mono ?_
  rintro e w1 ⟨rfl, rfl⟩
  rw [EA.out]
  go_wp2_with fail
  refine (mul64_any n n ⟨h, by omega⟩ ⟨h, by omega⟩ _).mono ?_
  rintro e w1 ⟨rfl, rfl⟩
  generalize hH : n * n / 18446744073709551616 = H at *
  generalize hL : n * n % 18446744073709551616 = L at *
  have HH := Lib.hid hH
  have HL := Lib.hid hL
  clear hH hL
  go_wp2_with fail
  rw [HH.out, HL.out]
  refine bodyPost_ret (v := .agg #[.int .i64 H, .int .u64 L]) (by simp [results, Try.results56, go_sem]) rfl ⟨rfl, ?_⟩
  exact (Below.refl _ _).alloc (Nat.le_refl _) _
theorem root_sq {s k : Int} (k0 : 0 ≤ k) (k1 : k ≤ 9223372036854775807) (h : IsRoot s (k * k)) : s = k :=
  root_uniq h ⟨k0, k1, Int.le_refl _, by have : (k + 1) * (k + 1) = k * k + 2 * k + 1 := by grind
                                         omega⟩
theorem root_small {r n : Int} (h : IsRoot r n) (h' : n ≤ 9223372036854775807) : 0 ≤ r ∧ r ≤ 3037000499 ∧ r * r ≤ n ∧ n - r * r ≤ 2 * r := by
  obtain ⟨a, b, c, d⟩ := h
  have e : (r + 1) * (r + 1) = r * r + 2 * r + 1 := by grind
  refine ⟨a, ?_, c, by omega⟩
  by_cases g : r ≤ 3037000499
  · exact g
  · have := Int.mul_le_mul (show 3037000500 ≤ r by omega) (show 3037000500 ≤ r by omega) (by omega) a
    omega
set_option maxHeartbeats 1000000 in
theorem squares_walk (n k : Int) (hlo : -9223372036854775808 ≤ n) (hhi : n ≤ 9223372036854775807) (w : World) :
    Calls Try.prog 11 #[.int .i64 n, .int .i64 k] w fun e w' => e = .returned (.bool true) ∧ Below w.heap.size w w' := by
  have hr : IsRoot 0 0 := ⟨by decide, by decide, by decide, by decide⟩
  clear hr
  go_enter Try.func11, Try.ntmps11
  go_wp2_with fail
  · rename_i K0 hKK
    have N0 : 0 ≤ wrap64 (-wrap64 (n + 1)) := by unfold wrap64 at h ⊢; omega
    have N1 : wrap64 (-wrap64 (n + 1)) ≤ 9223372036854775807 := by unfold wrap64 at h ⊢; omega
    clear h hlo hhi
    generalize wrap64 (-wrap64 (n + 1)) = N at *
    refine (pick_any k 3037000500 (by omega) (by omega) _).mono ?_
    rintro e w1 ⟨rfl, rfl⟩
    go_wp2_with fail
    have k0 : 0 ≤ k % 3037000500 := by omega
    have k1 : k % 3037000500 < 3037000500 := by omega
    generalize k % 3037000500 = kk at *
    obtain ⟨b0, b1⟩ := mulbd kk kk 3037000499 3037000499 (by omega) (by omega) (by omega) (by omega)
    have b2 := Int.mul_nonneg k0 k0
    refine (Root_any N N0 N1 _).mono ?_
    rintro e w1 ⟨r, hr, rfl, hb⟩
    obtain ⟨r0, r1, r2, r3⟩ := root_small hr N1
    have HB1 := Lib.hid hb
    clear hb hr
    have r4 := Int.mul_nonneg r0 r0
    go_wp2_with fail
    refine (Root_any (kk * kk) b2 (by omega) _).mono ?_
    rintro e w2 ⟨s, hs, rfl, hb⟩
    have hsk := root_sq k0 (by omega) hs
    subst hsk
    have HB2 := Lib.hid (HB1.out.trans (hb.mono HB1.out.size))
    clear hb hs
    go_wp2_with fail
    refine (rprod_nn N N0 N1 _).mono ?_
    rintro e w3 ⟨rfl, hb⟩
    have HB3 := Lib.hid (HB2.out.trans (hb.mono HB2.out.size))
    clear hb
    have q0 := Int.mul_nonneg N0 N0
    have q1 := Int.mul_le_mul N1 N1 N0 (by omega)
    have i0 : 0 ≤ N * N / 18446744073709551616 := by omega
    have i1 : N * N / 18446744073709551616 < 4611686018427387904 := by omega
    have i2 : 0 ≤ N * N % 18446744073709551616 := by omega
    have i3 : N * N % 18446744073709551616 < 18446744073709551616 := by omega
    clear q0 q1
    go_wp2_with fail
    refine (RootWide_any _ _ i0 i1 i2 i3 _).mono ?_
    rintro e w4 ⟨v, hv, rfl, hb⟩
    rw [show N * N / 18446744073709551616 * 18446744073709551616 + N * N % 18446744073709551616 = N * N from by omega] at hv
    have hvn := root_sq N0 N1 hv
    subst hvn
    have HB4 := Lib.hid (HB3.out.trans (hb.mono HB3.out.size))
    clear hb hv i0 i1 i2 i3
    go_wp2_with fail
    refine (lives_any _).mono ?_
    rintro e w5 ⟨rfl, hb⟩
    have HB5 := Lib.hid (HB4.out.trans (hb.mono HB4.out.size))
    clear hb
    go_wp2_with fail
    all_goals go_ret
    all_goals exact ⟨by simp, HB5.out⟩
  · rename_i K0 hKK
    have N0 : 0 ≤ n := by unfold wrap64 at h; omega
    have N1 := hhi
    clear h hlo hhi
    generalize wrap64 (-wrap64 (n + 1)) = Z at *
    generalize wrap64 (n + 1) = Y at *
    generalize n = N at *
    refine (pick_any k 3037000500 (by omega) (by omega) _).mono ?_
    rintro e w1 ⟨rfl, rfl⟩
    go_wp2_with fail
    have k0 : 0 ≤ k % 3037000500 := by omega
    have k1 : k % 3037000500 < 3037000500 := by omega
    generalize k % 3037000500 = kk at *
    obtain ⟨b0, b1⟩ := mulbd kk kk 3037000499 3037000499 (by omega) (by omega) (by omega) (by omega)
    have b2 := Int.mul_nonneg k0 k0
    refine (Root_any N N0 N1 _).mono ?_
    rintro e w1 ⟨r, hr, rfl, hb⟩
    obtain ⟨r0, r1, r2, r3⟩ := root_small hr N1
    have HB1 := Lib.hid hb
    clear hb hr
    have r4 := Int.mul_nonneg r0 r0
    go_wp2_with fail
    refine (Root_any (kk * kk) b2 (by omega) _).mono ?_
    rintro e w2 ⟨s, hs, rfl, hb⟩
    have hsk := root_sq k0 (by omega) hs
    subst hsk
    have HB2 := Lib.hid (HB1.out.trans (hb.mono HB1.out.size))
    clear hb hs
    go_wp2_with fail
    refine (rprod_nn N N0 N1 _).mono ?_
    rintro e w3 ⟨rfl, hb⟩
    have HB3 := Lib.hid (HB2.out.trans (hb.mono HB2.out.size))
    clear hb
    have q0 := Int.mul_nonneg N0 N0
    have q1 := Int.mul_le_mul N1 N1 N0 (by omega)
    have i0 : 0 ≤ N * N / 18446744073709551616 := by omega
    have i1 : N * N / 18446744073709551616 < 4611686018427387904 := by omega
    have i2 : 0 ≤ N * N % 18446744073709551616 := by omega
    have i3 : N * N % 18446744073709551616 < 18446744073709551616 := by omega
    clear q0 q1
    go_wp2_with fail
    refine (RootWide_any _ _ i0 i1 i2 i3 _).mono ?_
    rintro e w4 ⟨v, hv, rfl, hb⟩
    rw [show N * N / 18446744073709551616 * 18446744073709551616 + N * N % 18446744073709551616 = N * N from by omega] at hv
    have hvn := root_sq N0 N1 hv
    subst hvn
    have HB4 := Lib.hid (HB3.out.trans (hb.mono HB3.out.size))
    clear hb hv i0 i1 i2 i3
    go_wp2_with fail
    refine (lives_any _).mono ?_
    rintro e w5 ⟨rfl, hb⟩
    have HB5 := Lib.hid (HB4.out.trans (hb.mono HB4.out.size))
    clear hb
    go_wp2_with fail
    all_goals go_ret
    all_goals exact ⟨by simp, HB5.out⟩
end Go.Proofs.Ytgehbebjgmeccaa
