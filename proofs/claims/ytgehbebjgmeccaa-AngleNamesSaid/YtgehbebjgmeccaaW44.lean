/- Contracts of functions of the program and of its reference, out of walks. Their conditions stand ahead of each. -/
import Derived.Test.YtgehbebjgmeccaaW43
import Derived.Test.YtgehbebjgmeccaaW32
import Derived.Test.YtgehbebjgmeccaaW30
set_option linter.unusedVariables false
set_option linter.unusedSimpArgs false
namespace Go.Proofs.Ytgehbebjgmeccaa
open Go.RowKit GW
theorem run_sub64b {P : Program} (x y b : Int) (hx : Fx.U64 x) (hy : Fx.U64 y) (b0 : 0 ≤ b) (b1 : b ≤ 1) (w : World) :
    (sub64Entry #[.int .u64 x, .int .u64 y, .int .u64 b]).run P w = .ok (.tuple #[.int .u64 ((x - y - b) % 18446744073709551616), .int .u64 (if x < y + b then 1 else 0)]) w := by
  have key : ∀ k : Nat, k ≤ 1 → (sub64Entry #[.int .u64 x, .int .u64 y, .int .u64 (k : Int)]).run P w =
      .ok (Extern.MathBitsCarry.pair ((x.toNat + Extern.MathBitsCarry.m64 - y.toNat - k) % Extern.MathBitsCarry.m64) (if x.toNat < y.toNat + k then 1 else 0)) w := by
    intro k hk
    have : k = 0 ∨ k = 1 := by omega
    rcases this with rfl | rfl <;> rfl
  obtain ⟨k, rfl⟩ := Int.eq_ofNat_of_zero_le b0
  rw [key k (by omega)]
  unfold Fx.U64 at hx hy
  obtain ⟨X, rfl⟩ := Int.eq_ofNat_of_zero_le hx.1
  obtain ⟨Y, rfl⟩ := Int.eq_ofNat_of_zero_le hy.1
  simp only [Extern.MathBitsCarry.pair, Extern.MathBitsCarry.m64, Int.toNat_natCast]
  congr 4
  · congr 1
    simp
    omega
  · congr 2
    by_cases h : X < Y + k
    · rw [if_pos h, if_pos (by omega)]; rfl
    · rw [if_neg h, if_neg (by omega)]; rfl
theorem sub64_b (x y b : Int) (hx : Fx.U64 x) (hy : Fx.U64 y) (b0 : 0 ≤ b) (b1 : b ≤ 1) (w : World) : (callFunc 135 #[.int .u64 x, .int .u64 y, .int .u64 b]).run Try.prog w =
    .ok (.value (.tuple #[.int .u64 ((x - y - b) % 18446744073709551616), .int .u64 (if x < y + b then 1 else 0)])) w := by
  rw [run_callFunc_extern Try.func135 (by kernel_rfl) (by kernel_rfl) (by kernel_rfl) (e := sub64Entry) (by kernel_rfl), run_sub64b x y b hx hy b0 b1]
  rfl
theorem rneg_plain (p H L c M N : Int) (h0 : 0 ≤ -p) (h1 : -p ≤ 85070591730234615865843651857942052864) (hH : -p / 18446744073709551616 = H) (hL : -p % 18446744073709551616 = L) (hc : (if 0 < L then (1 : Int) else 0) = c)
    (hM : (0 - L) % 18446744073709551616 = M) (hN : (0 - H - c) % 18446744073709551616 = N) : 0 ≤ c ∧ c ≤ 1 ∧ Fx.U64 H ∧ Fx.U64 L ∧ wrap64 N = p / 18446744073709551616 ∧ M = p % 18446744073709551616 := by
  unfold Fx.U64 wrap64
  split at hc <;> omega
theorem rpos_plain (p H L : Int) (h0 : 0 ≤ p) (h1 : p ≤ 85070591730234615865843651857942052864) (hH : p / 18446744073709551616 = H) (hL : p % 18446744073709551616 = L) : wrap64 H = H ∧ 0 ≤ H ∧ H < 9223372036854775808 := by
  unfold wrap64; omega
set_option maxHeartbeats 1000000 in
theorem rProd_any (a b : Int) (ha : Fx.R64 a) (hb : Fx.R64 b) (w : World) :
    Calls Try.prog 56 #[.int .i64 a, .int .i64 b] w fun e w' => e = .returned (.agg #[.int .i64 (a * b / 18446744073709551616), .int .u64 (a * b % 18446744073709551616)]) ∧ Below w.heap.size w w' := by
  obtain ⟨P1, P2, p0, p1⟩ := prod_plain a b ha hb
  have A := az_bd a ha.1 ha.2
  have B := az_bd b hb.1 hb.2
  have AZ := Lib.hid A
  have BZ := Lib.hid B
  have HA := Lib.hid ha
  have HB := Lib.hid hb
  clear A B ha hb
  by_cases hs : (a < 0 ↔ b < 0)
  · obtain ⟨e, q0⟩ := P2 hs
    rw [e] at p1
    obtain ⟨w1, w2, w3⟩ := rpos_plain (a * b) _ _ q0 p1 rfl rfl
    have E := Lib.hid e
    have hT : (decide (a < 0) == decide (b < 0)) = true := by simp [hs]
    have hT' : (decide (a < 0) != decide (b < 0)) = false := by simp [hs]
    generalize hH : a * b / 18446744073709551616 = H at *
    generalize hL : a * b % 18446744073709551616 = L at *
    have HH := Lib.hid hH
    have HL := Lib.hid hL
    clear hH hL P1 P2 p0 p1 hs e q0
    refine calls_g fun g => ?_
    go_enter Try.func56, Try.ntmps56
    go_wp2_with (with_reducible refine G.any_mark _ ?_; (try generalize Array.size (World.heap (G.w _)) = bk); (try dsimp only [List.set_cons_zero, List.set_cons_succ]); (try clear g); intro g)
    refine (rsize_any a HA.out.1 HA.out.2 _).mono ?_
    rintro e w1 ⟨rfl, rfl⟩
    go_wp2_with (with_reducible refine G.any_mark _ ?_; (try generalize Array.size (World.heap (G.w _)) = bk); (try dsimp only [List.set_cons_zero, List.set_cons_succ]); (try clear g); intro g)
    refine (rsize_any b HB.out.1 HB.out.2 _).mono ?_
    rintro e w1 ⟨rfl, rfl⟩
    go_wp2_with (with_reducible refine G.any_mark _ ?_; (try generalize Array.size (World.heap (G.w _)) = bk); (try dsimp only [List.set_cons_zero, List.set_cons_succ]); (try clear g); intro g)
    refine (mul64_any _ _ ⟨AZ.out.1, by have := AZ.out.2; omega⟩ ⟨BZ.out.1, by have := BZ.out.2; omega⟩ _).mono ?_
    rw [E.out, HH.out, HL.out]
    rintro e w1 ⟨rfl, rfl⟩
    go_wp2_with (with_reducible refine G.any_mark _ ?_; (try generalize Array.size (World.heap (G.w _)) = bk); (try dsimp only [List.set_cons_zero, List.set_cons_succ]); (try clear g); intro g)
    refine bodyPost_ret (v := .agg #[.int .i64 H, .int .u64 L]) (by simp [results, Try.results56, go_sem]) rfl ⟨rfl, G.below _⟩
  · obtain ⟨e, q0⟩ := P1 hs
    rw [e] at p1
    obtain ⟨w1, w2, w3, w4, w5, w6⟩ := rneg_plain (a * b) _ _ _ _ _ q0 p1 rfl rfl rfl rfl rfl
    have E := Lib.hid e
    have hT : (decide (a < 0) == decide (b < 0)) = false := by simp [hs]
    have hT' : (decide (a < 0) != decide (b < 0)) = true := by simp [hs]
    rw [← w5, ← w6]
    generalize hH : -(a * b) / 18446744073709551616 = H at *
    generalize hL : -(a * b) % 18446744073709551616 = L at *
    have s1 := fun w => sub64_b 0 L 0 (by unfold Fx.U64; omega) w4 (Int.le_refl 0) (by omega) w
    simp only [Int.sub_zero, Int.add_zero] at s1
    generalize hc : (if 0 < L then (1 : Int) else 0) = c at *
    have s2 := fun w => sub64_b 0 H c (by unfold Fx.U64; omega) w3 w1 w2 w
    generalize (if 0 < H + c then (1 : Int) else 0) = c2 at s2
    generalize (0 - L) % 18446744073709551616 = M at *
    generalize (0 - H - c) % 18446744073709551616 = N at *
    have HH := Lib.hid hH
    have HL := Lib.hid hL
    have S1 := Lib.hid s1
    have S2 := Lib.hid s2
    clear hH hL P1 P2 p0 p1 hs e q0 s1 s2 w1 w2 w3 w4 w5 w6 hc
    refine calls_g fun g => ?_
    go_enter Try.func56, Try.ntmps56
    go_wp2_with (with_reducible refine G.any_mark _ ?_; (try generalize Array.size (World.heap (G.w _)) = bk); (try dsimp only [List.set_cons_zero, List.set_cons_succ]); (try clear g); intro g)
    refine (rsize_any a HA.out.1 HA.out.2 _).mono ?_
    rintro e w1 ⟨rfl, rfl⟩
    go_wp2_with (with_reducible refine G.any_mark _ ?_; (try generalize Array.size (World.heap (G.w _)) = bk); (try dsimp only [List.set_cons_zero, List.set_cons_succ]); (try clear g); intro g)
    refine (rsize_any b HB.out.1 HB.out.2 _).mono ?_
    rintro e w1 ⟨rfl, rfl⟩
    go_wp2_with (with_reducible refine G.any_mark _ ?_; (try generalize Array.size (World.heap (G.w _)) = bk); (try dsimp only [List.set_cons_zero, List.set_cons_succ]); (try clear g); intro g)
    refine (mul64_any _ _ ⟨AZ.out.1, by have := AZ.out.2; omega⟩ ⟨BZ.out.1, by have := BZ.out.2; omega⟩ _).mono ?_
    rw [E.out, HH.out, HL.out]
    rintro e w1 ⟨rfl, rfl⟩
    go_wp2_with (first | (with_reducible refine G.any_mark _ ?_; (try generalize Array.size (World.heap (G.w _)) = bk); (try dsimp only [List.set_cons_zero, List.set_cons_succ]); (try clear g); intro g) | simp only [S1.out, S2.out])
    refine bodyPost_ret (v := .agg #[.int .i64 (wrap64 N), .int .u64 M]) (by simp [results, Try.results56, go_sem]) rfl ⟨rfl, G.below _⟩
theorem rprod_w (a b H L : Int) (ha : Fx.R64 a) (hb : Fx.R64 b) (hH : a * b / 18446744073709551616 = H) (hL : a * b % 18446744073709551616 = L) (w : World) :
    Calls Try.prog 56 #[.int .i64 a, .int .i64 b] w fun e w' => e = .returned (.agg #[.int .i64 H, .int .u64 L]) ∧ Below w.heap.size w w' := by
  subst hH; subst hL; exact rProd_any a b ha hb w
theorem rPlus_w (a0 a1 b0 b1 A B E s : Int) (h1 : Fx.R64 a0) (h2 : Fx.U64 a1) (h3 : Fx.R64 b0) (h4 : Fx.U64 b1) (hs : Fx.wd a0 a1 + Fx.wd b0 b1 = s) (hA : Fx.ovH s = A) (hB : Fx.ovL s = B) (hE : Fx.ovE s = E) (w : World) :
    Calls Try.prog 100 #[.agg #[.int .i64 a0, .int .u64 a1], .agg #[.int .i64 b0, .int .u64 b1]] w fun e w' =>
      e = .returned (.tuple #[.agg #[.int .i64 A, .int .u64 B], .int .i64 E]) ∧ Below w.heap.size w w' := by
  subst hA; subst hB; subst hE; subst hs; exact rPlus_any a0 a1 b0 b1 h1 h2 h3 h4 w
set_option maxHeartbeats 4000000 in
theorem rNorm_any (x y z : Int) (hx : Fx.R64 x) (hy : Fx.R64 y) (hz : Fx.R64 z) (w : World) :
    Calls Try.prog 104 #[.agg #[.int .i64 x, .int .i64 y, .int .i64 z]] w fun e w' =>
      e = .returned (.tuple #[.agg #[.int .i64 (Fx.ovH (x * x + y * y + z * z)), .int .u64 (Fx.ovL (x * x + y * y + z * z))], .int .i64 (Fx.ovE (x * x + y * y + z * z))]) ∧ Below w.heap.size w w' := by
  have up := part_up x y z hx hy hz 2 (by omega)
  rw [show part x y z 2 = x * x + y * y from rfl, show part x y z 3 = x * x + y * y + z * z from rfl] at up
  obtain ⟨a1, a2, a3, -⟩ := norm_all x y z hx hy hz
  have R1 := Lib.hid (Fx.dm_rng a1)
  have R2 := Lib.hid (Fx.dm_rng a2)
  have R3 := Lib.hid (Fx.dm_rng a3)
  have D1 := Lib.hid (Fx.wd_dm (x * x))
  have D2 := Lib.hid (Fx.wd_dm (y * y))
  have D3 := Lib.hid (Fx.wd_dm (z * z))
  have HX := Lib.hid hx
  have HY := Lib.hid hy
  have HZ := Lib.hid hz
  have UP := Lib.hid up
  generalize h1 : x * x / 18446744073709551616 = H1 at *
  generalize k1 : x * x % 18446744073709551616 = L1 at *
  generalize h2 : y * y / 18446744073709551616 = H2 at *
  generalize k2 : y * y % 18446744073709551616 = L2 at *
  generalize h3 : z * z / 18446744073709551616 = H3 at *
  generalize k3 : z * z % 18446744073709551616 = L3 at *
  have E1 := Lib.hid h1
  have F1 := Lib.hid k1
  have E2 := Lib.hid h2
  have F2 := Lib.hid k2
  have E3 := Lib.hid h3
  have F3 := Lib.hid k3
  clear h1 k1 h2 k2 h3 k3 hx hy hz a1 a2 a3 up
  generalize hA : Fx.ovH (x * x + y * y) = A at *
  generalize hB : Fx.ovL (x * x + y * y) = B at *
  have HA := Lib.hid hA
  have HB := Lib.hid hB
  clear hA hB
  by_cases hin : Fx.in128 (x * x + y * y)
  · have ov := Fx.ov_w hin
    rw [HA.out, HB.out] at ov
    have OV := Lib.hid ov
    clear hin ov UP
    generalize hA' : Fx.ovH (x * x + y * y + z * z) = A' at *
    generalize hB' : Fx.ovL (x * x + y * y + z * z) = B' at *
    generalize hE' : Fx.ovE (x * x + y * y + z * z) = E' at *
    have HA' := Lib.hid hA'
    have HB' := Lib.hid hB'
    have HE' := Lib.hid hE'
    clear hA' hB' hE'
    refine calls_g fun g => ?_
    go_enter Try.func104, Try.ntmps104
    go_wp2_with (with_reducible refine G.any_mark _ ?_; (try generalize Array.size (World.heap (G.w _)) = bk); (try dsimp only [List.set_cons_zero, List.set_cons_succ]); (try clear g); intro g)
    go_region_held3 (G.held g) (simp [G.held, HeldL, go_sem]) (first | (go_at_call 56; (first | (with_reducible refine (rprod_w x x H1 L1 HX.out HX.out E1.out F1.out _).mono ?_) | (with_reducible refine (rprod_w y y H2 L2 HY.out HY.out E2.out F2.out _).mono ?_)); rintro e w1 ⟨rfl, hb⟩; obtain ⟨g1, rfl⟩ := G.call_ex _ hb; clear hb; (try clear g); revert g1; intro g) | (go_at_call 100; refine (rPlus_w H1 L1 H2 L2 A B 0 _ R1.out.1 R1.out.2 R2.out.1 R2.out.2 (by rw [D1.out, D2.out]) HA.out HB.out OV.out.2.2.2 _).mono ?_; rintro e w1 ⟨rfl, hb⟩; obtain ⟨g1, rfl⟩ := G.call_ex _ hb; clear hb; (try clear g); revert g1; intro g))
    all_goals
      (refine G.any_mark _ ?_; (try generalize Array.size (World.heap (G.w _)) = bk); (try dsimp only [List.set_cons_zero, List.set_cons_succ]); (try clear g); intro g)
      go_wp2_with (with_reducible refine G.any_mark _ ?_; (try generalize Array.size (World.heap (G.w _)) = bk); (try dsimp only [List.set_cons_zero, List.set_cons_succ]); (try clear g); intro g)
      go_region_held3 (G.heldN g [true, false, true]) (simp [G.heldN, HeldN, go_sem]) (first | (go_at_call 56; refine (rprod_w z z H3 L3 HZ.out HZ.out E3.out F3.out _).mono ?_; rintro e w1 ⟨rfl, hb⟩; obtain ⟨g1, rfl⟩ := G.call_ex _ hb; clear hb; (try clear g); revert g1; intro g) | (go_at_call 100; refine (rPlus_w A B H3 L3 A' B' E' _ OV.out.1 OV.out.2.1 R3.out.1 R3.out.2 (by rw [OV.out.2.2.1, D3.out]) HA'.out HB'.out HE'.out _).mono ?_; rintro e w1 ⟨rfl, hb⟩; obtain ⟨g1, rfl⟩ := G.call_ex _ hb; clear hb; (try clear g); revert g1; intro g))
      all_goals
        go_wp2_with (with_reducible refine G.any_mark _ ?_; (try generalize Array.size (World.heap (G.w _)) = bk); (try dsimp only [List.set_cons_zero, List.set_cons_succ]); (try clear g); intro g)
        refine bodyPost_ret (v := .tuple #[.agg #[.int .i64 A', .int .u64 B'], .int .i64 E']) (by simp [results, Try.results104, go_sem]) rfl ⟨rfl, G.below _⟩
  · have ov := Fx.ov_no hin
    rw [HA.out, HB.out] at ov
    have OV := Lib.hid ov
    have ov2 := Fx.ov_no (UP.out hin)
    rw [ov2.1, ov2.2.1, ov2.2.2]
    clear hin ov UP ov2
    refine calls_g fun g => ?_
    go_enter Try.func104, Try.ntmps104
    go_wp2_with (with_reducible refine G.any_mark _ ?_; (try generalize Array.size (World.heap (G.w _)) = bk); (try dsimp only [List.set_cons_zero, List.set_cons_succ]); (try clear g); intro g)
    go_region_held3 (G.held g) (simp [G.held, HeldL, go_sem]) (first | (go_at_call 56; (first | (with_reducible refine (rprod_w x x H1 L1 HX.out HX.out E1.out F1.out _).mono ?_) | (with_reducible refine (rprod_w y y H2 L2 HY.out HY.out E2.out F2.out _).mono ?_)); rintro e w1 ⟨rfl, hb⟩; obtain ⟨g1, rfl⟩ := G.call_ex _ hb; clear hb; (try clear g); revert g1; intro g) | (go_at_call 100; refine (rPlus_w H1 L1 H2 L2 A B 5 _ R1.out.1 R1.out.2 R2.out.1 R2.out.2 (by rw [D1.out, D2.out]) HA.out HB.out OV.out.1 _).mono ?_; rintro e w1 ⟨rfl, hb⟩; obtain ⟨g1, rfl⟩ := G.call_ex _ hb; clear hb; (try clear g); revert g1; intro g))
    all_goals
      go_wp2_with (with_reducible refine G.any_mark _ ?_; (try generalize Array.size (World.heap (G.w _)) = bk); (try dsimp only [List.set_cons_zero, List.set_cons_succ]); (try clear g); intro g)
      refine bodyPost_ret (v := .tuple #[.agg #[.int .i64 0, .int .u64 0], .int .i64 5]) (by simp [results, Try.results104, go_sem]) rfl ⟨rfl, G.below _⟩
end Go.Proofs.Ytgehbebjgmeccaa
