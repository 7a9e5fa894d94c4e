/- Contracts of functions of the program and of its reference, out of walks. Their conditions stand ahead of each. -/
import Derived.Test.YtgehbebjgmeccaaW48
set_option linter.unusedVariables false
set_option linter.unusedSimpArgs false
namespace Go.Proofs.Ytgehbebjgmeccaa
open Go.RowKit GW
theorem hup_one (x : Int) : Fx.hup x (2 ^ 0) = x := by unfold Fx.hup; omega
theorem halved_plain (x H1 L1 H2 L2 H L : Int) (n : Nat) (x0 : 0 ≤ x) (x1 : x < 340282366920938463463374607431768211456) (h1 : x / 2 ^ (n + 1) / 18446744073709551616 = H1) (h2 : x / 2 ^ (n + 1) % 18446744073709551616 = L1)
    (h3 : x / 2 ^ n / 18446744073709551616 = H2) (h4 : x / 2 ^ n % 18446744073709551616 = L2) (h5 : Fx.hup x (2 ^ (n + 1)) / 18446744073709551616 = H) (h6 : Fx.hup x (2 ^ (n + 1)) % 18446744073709551616 = L) :
    Fx.U64 H1 ∧ Fx.U64 L1 ∧ Fx.U64 H2 ∧ Fx.U64 L2 ∧ 0 ≤ L2 % 2 ∧ (H1 + (L1 + L2 % 2) / 18446744073709551616) % 18446744073709551616 = H ∧ (L1 + L2 % 2) % 18446744073709551616 = L := by
  rw [Fx.hup_pow] at h5 h6
  have e1 : x / 2 ^ (n + 1) = x / 2 ^ n / 2 := by rw [Fx.pow_succ', Int.mul_comm]; exact (Int.ediv_ediv_of_nonneg (by have := Fx.pow_pos' n; omega)).symm
  rw [e1] at h1 h2 h5 h6
  have q : 0 ≤ x / 2 ^ n := Int.ediv_nonneg x0 (by have := Fx.pow_pos' n; omega)
  have q2 : x / 2 ^ n ≤ x := Int.ediv_le_self _ x0
  generalize x / 2 ^ n = y at *
  unfold Fx.U64
  omega
theorem halved_0 (h l : Int) (w : World) :
    Calls Try.prog 145 #[.agg #[.int .u64 h, .int .u64 l], .int .i64 0] w fun e w' => e = .returned (.agg #[.int .u64 h, .int .u64 l]) ∧ Below w.heap.size w w' := by
  refine calls_g fun g => ?_
  go_enter Try.func145, Try.ntmps145
  go_wp2_with (with_reducible refine G.any_mark _ ?_; (try generalize Array.size (World.heap (G.w _)) = bk); (try dsimp only [List.set_cons_zero, List.set_cons_succ]); (try clear g); intro g)
  refine bodyPost_ret (v := .agg #[.int .u64 h, .int .u64 l]) (by simp [results, Try.results145, go_sem]) rfl ⟨rfl, G.below _⟩
theorem field117 (a b : Int) (w : World) : (Instr.field 117 (.agg #[.int .u64 a, .int .u64 b]) 1).run Try.prog w = .ok (.int .u64 b) w := by kernel_rfl
theorem plus1_w (hi lo x H L : Int) (l0 : 0 ≤ lo) (x0 : 0 ≤ x) (hH : (hi + (lo + x) / 18446744073709551616) % 18446744073709551616 = H) (hL : (lo + x) % 18446744073709551616 = L) (w : World) :
    Calls Try.prog 155 #[.agg #[.int .u64 hi, .int .u64 lo], .int .u64 x] w fun e w' => e = .returned (.agg #[.int .u64 H, .int .u64 L]) ∧ Below w.heap.size w w' := by
  subst hH; subst hL; exact plus1_any hi lo x l0 x0 w
set_option maxHeartbeats 2000000 in
theorem halved_s (h l H L : Int) (n : Nat) (h0 : Fx.U64 h) (l0 : Fx.U64 l) (n1 : n + 1 ≤ 127) (h5 : Fx.hup (Fx.wd h l) (2 ^ (n + 1)) / 18446744073709551616 = H) (h6 : Fx.hup (Fx.wd h l) (2 ^ (n + 1)) % 18446744073709551616 = L) (w : World) :
    Calls Try.prog 145 #[.agg #[.int .u64 h, .int .u64 l], .int .i64 (n + 1)] w fun e w' => e = .returned (.agg #[.int .u64 H, .int .u64 L]) ∧ Below w.heap.size w w' := by
  obtain ⟨H1, e1⟩ : ∃ v, Fx.wd h l / 2 ^ (n + 1) / 18446744073709551616 = v := ⟨_, rfl⟩
  obtain ⟨L1, e2⟩ : ∃ v, Fx.wd h l / 2 ^ (n + 1) % 18446744073709551616 = v := ⟨_, rfl⟩
  obtain ⟨H2, e3⟩ : ∃ v, Fx.wd h l / 2 ^ n / 18446744073709551616 = v := ⟨_, rfl⟩
  obtain ⟨L2, e4⟩ : ∃ v, Fx.wd h l / 2 ^ n % 18446744073709551616 = v := ⟨_, rfl⟩
  obtain ⟨p1, p2, p3, p4, p5, p6, p7⟩ := halved_plain (Fx.wd h l) H1 L1 H2 L2 H L n (by unfold Fx.wd Fx.U64 at *; omega) (by unfold Fx.wd Fx.U64 at *; omega) e1 e2 e3 e4 h5 h6
  have and1 := Fx.u64and1 L2 p4
  have t1 : ((n : Int) + 1).toNat = n + 1 := by omega
  have t2 : ((n : Int)).toNat = n := by omega
  have a0 : (0 : Int) ≤ n := by omega
  have a1 : (n : Int) ≤ 126 := by omega
  have a2 : (((n : Int) + 1) == 0) = false := by simp; omega
  have E1 := Lib.hid e1
  have E2 := Lib.hid e2
  have E3 := Lib.hid e3
  have E4 := Lib.hid e4
  have P1 := Lib.hid p2
  have P5 := Lib.hid p5
  have P6 := Lib.hid p6
  have P7 := Lib.hid p7
  have AN := Lib.hid and1
  have T1 := Lib.hid t1
  have T2 := Lib.hid t2
  have H0 := Lib.hid h0
  have L0 := Lib.hid l0
  have w1 : IntKind.i64.wrap (n : Int) = n := IntWalk.i64_in _ (by omega)
  have C1 := Lib.hid (fun w => right_w h l H1 L1 ((n : Int) + 1) h0 l0 (by omega) (by omega) (by rw [t1]; exact e1) (by rw [t1]; exact e2) w)
  have C2 := Lib.hid (fun w => right_w h l H2 L2 (n : Int) h0 l0 (by omega) (by omega) (by rw [t2]; exact e3) (by rw [t2]; exact e4) w)
  clear e1 e2 e3 e4 p1 p2 p3 p4 p5 p6 p7 and1 t1 t2 h0 l0 h5 h6 n1
  refine calls_g fun g => ?_
  go_enter Try.func145, Try.ntmps145
  go_wp2_with (with_reducible refine G.any_mark _ ?_; (try generalize Array.size (World.heap (G.w _)) = bk); (try dsimp only [List.set_cons_zero, List.set_cons_succ]); (try clear g); intro g)
  have f117 := field117 H2 L2
  go_region_held3 (G.heldN g [false, true]) (simp [G.heldN, HeldN, go_sem]) (first | (go_at_call 176; (first | (with_reducible refine (C1.out _).mono ?_) | (with_reducible refine (C2.out _).mono ?_)); rintro e w1 ⟨rfl, hb⟩; obtain ⟨g1, rfl⟩ := G.call_ex _ hb; clear hb; (try clear g); revert g1; intro g) | (go_at_call 155; rw [AN.out]; refine (plus1_w H1 L1 (L2 % 2) H L P1.out.1 P5.out P6.out P7.out _).mono ?_; rintro e w1 ⟨rfl, hb⟩; obtain ⟨g1, rfl⟩ := G.call_ex _ hb; clear hb; (try clear g); revert g1; intro g))
  all_goals
    (try (refine G.any_mark _ ?_; (try generalize Array.size (World.heap (G.w _)) = bk); (try dsimp only [List.set_cons_zero, List.set_cons_succ]); (try clear g); intro g))
    go_wp2_with (with_reducible refine G.any_mark _ ?_; (try generalize Array.size (World.heap (G.w _)) = bk); (try dsimp only [List.set_cons_zero, List.set_cons_succ]); (try clear g); intro g)
    refine bodyPost_ret (v := .agg #[.int .u64 H, .int .u64 L]) (by simp [results, Try.results145, go_sem]) rfl ⟨rfl, G.below _⟩
end Go.Proofs.Ytgehbebjgmeccaa
