/- Contracts of functions of the program and of its reference, out of walks. Their conditions stand ahead of each. -/
import Derived.Test.YtgehbebjgmeccaaW54
set_option linter.unusedVariables false
set_option linter.unusedSimpArgs false
namespace Go.Proofs.Ytgehbebjgmeccaa
open Go.RowKit GW
theorem half_step (h l : Int) (h0 : Fx.U64 h) (l0 : Fx.U64 l) : ∃ L : Int, bits .or .u64 (l / 2) (IntKind.u64.wrap (h * 9223372036854775808)) = L ∧ Fx.U64 (h / 2) ∧ Fx.U64 L ∧ Fx.wd (h / 2) L = Fx.wd h l / 2 := by
  obtain ⟨p1, p2, p3, p4, p5, p6⟩ := Fx.shr_lo h l h0 l0 1 (by omega)
  have hor := K.u64or_add _ _ (64 - 1) (by omega) p1 p2 p3.1 p3.2 p4
  have e1 : (2 : Int) ^ 1 = 2 := rfl
  have e2 : (2 : Int) ^ (64 - 1) = 9223372036854775808 := rfl
  rw [e1, e2] at hor p5 p6
  refine ⟨_, rfl, ?_, ?_, ?_⟩
  · unfold Fx.U64 at *; omega
  · rw [IntKind.wrap_u64, hor]; exact p6
  · rw [IntKind.wrap_u64, hor]; unfold Fx.wd; exact p5
theorem rhalved_0 (h l : Int) (w : World) :
    Calls Try.prog 147 #[.int .u64 h, .int .u64 l, .int .i64 0] w fun e w' => e = .returned (.tuple #[.int .u64 h, .int .u64 l]) ∧ w = w' := by
  go_enter Try.func147, Try.ntmps147
  go_wp2_with (first | (refine wp_loop_rounds 1 ?_; rw [rounds_succ]) | fail)
  go_ret2
  exact ⟨rfl, rfl⟩
set_option maxHeartbeats 1000000 in
theorem rhalved_s (h l H L : Int) (n : Nat) (h0 : Fx.U64 h) (l0 : Fx.U64 l) (n1 : n ≤ 126) (h5 : Fx.hup (Fx.wd h l) (2 ^ (n + 1)) / 18446744073709551616 = H) (h6 : Fx.hup (Fx.wd h l) (2 ^ (n + 1)) % 18446744073709551616 = L) (w : World) :
    Calls Try.prog 147 #[.int .u64 h, .int .u64 l, .int .i64 ((n : Int) + 1)] w fun e w' => e = .returned (.tuple #[.int .u64 H, .int .u64 L]) ∧ w = w' := by
  obtain ⟨x, hx⟩ : ∃ v, Fx.wd h l = v := ⟨_, rfl⟩
  have HX := Lib.hid hx
  have H5 := Lib.hid h5
  have H6 := Lib.hid h6
  have H0 := Lib.hid h0
  have L0 := Lib.hid l0
  clear hx h5 h6 h0 l0
  go_enter Try.func147, Try.ntmps147
  go_wp2_with fail
  go_loop [0, 1, 2] (fun p q t => ∃ (a b : Int) (m : Nat), p = .int .u64 a ∧ q = .int .u64 b ∧ t = .int .i64 m ∧ 1 ≤ m ∧ m ≤ n + 1 ∧ Fx.U64 a ∧ Fx.U64 b ∧ Fx.wd a b = x / 2 ^ (n + 1 - m)) (fun _ _ t => (intOf t).toNat)
  case atStart => exact ⟨h, l, n + 1, rfl, rfl, by go_num, by omega, Nat.le_refl _, H0.out, L0.out, by rw [Nat.sub_self, HX.out]; simp⟩
  case round =>
    obtain ⟨a, b, m, rfl, rfl, rfl, hm1, hm, ha, hb, hv⟩ := hrel
    obtain ⟨L', g1, g2, g3, g4⟩ := half_step a b ha hb
    have HA := Lib.hid ha
    have HB := Lib.hid hb
    have HV := Lib.hid hv
    have G2 := Lib.hid g2
    have G3 := Lib.hid g3
    have G4 := Lib.hid g4
    have a0 := ha.1
    have a1 := ha.2
    have b0 := hb.1
    have b1 := hb.2
    clear ha hb hv g2 g3 g4
    have m0 : (1 : Int) ≤ m := by omega
    have m1 : (m : Int) ≤ 127 := by omega
    have mw : IntKind.i64.wrap ((m : Int) - 1) = (m : Int) - 1 := IntWalk.i64_in _ (by omega)
    by_cases hlt : 1 < m
    · have k1 : (1 : Int) < m := by omega
      go_wp2_with fail
      refine ⟨⟨a / 2, L', m - 1, rfl, rfl, by go_num, by omega, by omega, G2.out, G3.out, ?_⟩, by simp [intOf]; omega⟩
      rw [G4.out, HV.out, show n + 1 - (m - 1) = n + 1 - m + 1 by omega, Int.ediv_ediv_of_nonneg (by have := Fx.pow_pos' (n + 1 - m); omega)]
      rfl
    · have : m = 1 := by omega
      subst this
      have hu := Fx.hup_pow x n
      rw [← HX.out] at hu
      have hv2 := HV.out
      rw [show n + 1 - 1 = n by omega] at hv2
      have ee : Fx.wd h l / 2 ^ (n + 1) = Fx.wd a b / 2 := by
        rw [HX.out, hv2, Fx.pow_succ', Int.mul_comm 2]; exact (Int.ediv_ediv_of_nonneg (by have := Fx.pow_pos' n; omega)).symm
      rw [ee, ← G4.out, HX.out, ← hv2] at hu
      have h5 := H5.out
      have h6 := H6.out
      rw [HX.out] at h5 h6
      have gg3 := G3.out
      have gg2 := G2.out
      have an := Fx.u64and1 b HB.out
      have bb : Fx.wd a b % 2 = b % 2 := by unfold Fx.wd; omega
      rw [bb] at hu
      rw [hu] at h5 h6
      unfold Fx.wd at h5 h6
      unfold Fx.U64 at gg2 gg3
      have ad := fun w => add64_0 L' (b % 2) gg3.1 (by omega) w
      have t2 : (L' + b % 2) % 18446744073709551616 = L := by omega
      have t3 : IntKind.u64.wrap (a / 2 + (L' + b % 2) / 18446744073709551616) = H := by rw [IntKind.wrap_u64]; omega
      rw [t2] at ad
      generalize (L' + b % 2) / 18446744073709551616 = c at *
      have AD := Lib.hid ad
      clear ad t2 hu hv2 ee h5 h6 gg2 gg3 bb hlt hm hm1 m0 m1 mw
      go_wp2_with (simp only [AD.out])
      go_ret2
      exact ⟨rfl, rfl⟩
end Go.Proofs.Ytgehbebjgmeccaa
