/- Contracts of functions of the program and of its reference, out of walks. Their conditions stand ahead of each. -/
import Derived.Test.YtgehbebjgmeccaaW55
set_option linter.unusedVariables false
set_option linter.unusedSimpArgs false
namespace Go.Proofs.Ytgehbebjgmeccaa
open Go.RowKit GW
theorem signed_w (m p V : Int) (ov neg : Bool) (m0 : Fx.U64 m) (h1 : ov = true → 9223372036854775807 < p) (h2 : ov = false → p = m) (hV : Fx.sgV neg p = V) (w : World) :
    Calls Try.prog 148 #[.int .u64 m, .bool ov, .bool neg] w fun e w' => e = .returned (.int .i64 V) ∧ w = w' := by
  have hv : V = if neg then (if ov = true ∨ 9223372036854775807 < m then -9223372036854775808 else -m) else (if ov = true ∨ 9223372036854775807 < m then 9223372036854775807 else m) := by
    rw [← hV]
    unfold Fx.sgV
    cases ov
    · rw [h2 rfl]; simp
    · have := h1 rfl
      cases neg <;> simp [this]
  have HV := Lib.hid hv
  unfold Fx.U64 at m0
  obtain ⟨m1, m2⟩ := m0
  clear hv h1 h2 hV
  cases neg <;> cases ov <;> by_cases q2 : 9223372036854775807 < m
  all_goals
    have q3 := q2
    have HW := HV.out
    simp only [q2, true_or, or_true, or_self, if_true, if_false, Bool.false_eq_true] at HW
    have HX := Lib.hid HW
    have q4 : ¬ (9223372036854775808 ≤ m) ∨ 9223372036854775808 ≤ m := by omega
    rcases q4 with q4 | q4
    all_goals first
      | (exfalso; omega)
      | (clear HW HV q3
         go_enter Try.func148, Try.ntmps148
         (go_wp2_with fail) <;> (go_ret; exact ⟨by rw [HX.out]; rfl, rfl⟩))
theorem divided_big (hi lo d : Int) (h : d ≤ hi) (w : World) :
    Calls Try.prog 151 #[.int .u64 hi, .int .u64 lo, .int .u64 d] w fun e w' => e = .returned (.tuple #[.int .u64 0, .bool true]) ∧ Below w.heap.size w w' := by
  refine calls_g fun g => ?_
  go_enter Try.func151, Try.ntmps151
  go_wp2_with (with_reducible refine G.any_mark _ ?_; (try generalize Array.size (World.heap (G.w _)) = bk); (try dsimp only [List.set_cons_zero, List.set_cons_succ]); (try clear g); intro g)
  go_ret2
  exact ⟨rfl, G.below _⟩
theorem divided_w (hi lo d Q : Int) (h0 : Fx.U64 hi) (l0 : Fx.U64 lo) (d0 : 1 ≤ d) (d1 : d < 18446744073709551616) (hQ : Fx.hup (Fx.wd hi lo) d = Q) (w : World) :
    Calls Try.prog 151 #[.int .u64 hi, .int .u64 lo, .int .u64 d] w fun e w' => (∃ M : Int, ∃ ov : Bool, e = .returned (.tuple #[.int .u64 M, .bool ov]) ∧ Fx.U64 M ∧ (ov = true → 9223372036854775807 < Q) ∧ (ov = false → Q = M)) ∧ Below w.heap.size w w' := by
  obtain ⟨hq, e1⟩ : ∃ v, hi / d = v := ⟨_, rfl⟩
  obtain ⟨hr, e2⟩ : ∃ v, hi % d = v := ⟨_, rfl⟩
  obtain ⟨q, e3⟩ : ∃ v, (hr * 18446744073709551616 + lo) / d = v := ⟨_, rfl⟩
  obtain ⟨r, e4⟩ : ∃ v, (hr * 18446744073709551616 + lo) % d = v := ⟨_, rfl⟩
  obtain ⟨p1, p2, p3, p4, p5, p6, p7, p8, p9⟩ := over_plain hi lo d _ hq hr q r h0.1 h0.2 l0.1 l0.2 d0 d1 rfl e1 e2 e3 e4
  unfold Fx.wd at hQ
  rw [hQ] at p9
  by_cases hb : d ≤ hi
  · refine (divided_big hi lo d hb w).mono fun e w' ⟨he, hbel⟩ => ⟨⟨0, true, he, by unfold Fx.U64; omega, fun _ => ?_, fun h => by cases h⟩, hbel⟩
    have : 1 ≤ hq := by rw [← e1]; exact (Int.le_ediv_iff_mul_le (by omega)).2 (by omega)
    split at p9 <;> omega
  · have ehr : hr = hi := by rw [← e2]; exact Int.emod_eq_of_lt h0.1 (by omega)
    have ehq : hq = 0 := by rw [← e1]; exact Int.ediv_eq_zero_of_lt h0.1 (by omega)
    subst ehr ehq
    have CD := Lib.hid (fun w => Div64_w hr lo d q r p3 p4 l0 d1 e3 e4 w)
    have wd : IntKind.u64.wrap (d - r) = d - r := by rw [IntKind.wrap_u64]; omega
    have b1 : ¬ (d ≤ hr) := hb
    clear e1 e2 e3 e4 h0 l0 hQ hb
    by_cases g : d ≤ 2 * r
    · rw [if_pos g] at p9
      have t1 : d - r ≤ r := by omega
      by_cases gm : q = 18446744073709551615
      · subst gm
        have P := Lib.hid p9
        clear p9
        refine calls_g fun g => ?_
        go_enter Try.func151, Try.ntmps151
        go_wp2_with (with_reducible refine G.any_mark _ ?_; (try generalize Array.size (World.heap (G.w _)) = bk); (try dsimp only [List.set_cons_zero, List.set_cons_succ]); (try clear g); intro g)
        refine (CD.out _).mono ?_; rintro e w1 ⟨rfl, hb⟩; obtain ⟨g1, rfl⟩ := G.call_ex _ hb; clear hb; (try clear g); revert g1; intro g
        go_wp2_with (with_reducible refine G.any_mark _ ?_; (try generalize Array.size (World.heap (G.w _)) = bk); (try dsimp only [List.set_cons_zero, List.set_cons_succ]); (try clear g); intro g)
        go_ret2
        exact ⟨⟨0, true, rfl, by unfold Fx.U64; omega, (fun _ => by have := P.out; omega), fun h => by cases h⟩, G.below _⟩
      · have t2 : (q == 18446744073709551615) = false := by simpa using gm
        have wq : IntKind.u64.wrap (q + 1) = q + 1 := by rw [IntKind.wrap_u64]; omega
        have P := Lib.hid p9
        clear p9
        refine calls_g fun g => ?_
        go_enter Try.func151, Try.ntmps151
        go_wp2_with (with_reducible refine G.any_mark _ ?_; (try generalize Array.size (World.heap (G.w _)) = bk); (try dsimp only [List.set_cons_zero, List.set_cons_succ]); (try clear g); intro g)
        refine (CD.out _).mono ?_; rintro e w1 ⟨rfl, hb⟩; obtain ⟨g1, rfl⟩ := G.call_ex _ hb; clear hb; (try clear g); revert g1; intro g
        go_wp2_with (with_reducible refine G.any_mark _ ?_; (try generalize Array.size (World.heap (G.w _)) = bk); (try dsimp only [List.set_cons_zero, List.set_cons_succ]); (try clear g); intro g)
        go_ret2
        exact ⟨⟨q + 1, false, rfl, by unfold Fx.U64; omega, (fun h => by cases h), fun _ => by have := P.out; omega⟩, G.below _⟩
    · rw [if_neg g] at p9
      have t1 : ¬ (d - r ≤ r) := by omega
      have P := Lib.hid p9
      clear p9
      refine calls_g fun g => ?_
      go_enter Try.func151, Try.ntmps151
      go_wp2_with (with_reducible refine G.any_mark _ ?_; (try generalize Array.size (World.heap (G.w _)) = bk); (try dsimp only [List.set_cons_zero, List.set_cons_succ]); (try clear g); intro g)
      refine (CD.out _).mono ?_; rintro e w1 ⟨rfl, hb⟩; obtain ⟨g1, rfl⟩ := G.call_ex _ hb; clear hb; (try clear g); revert g1; intro g
      go_wp2_with (with_reducible refine G.any_mark _ ?_; (try generalize Array.size (World.heap (G.w _)) = bk); (try dsimp only [List.set_cons_zero, List.set_cons_succ]); (try clear g); intro g)
      go_ret2
      exact ⟨⟨q, false, rfl, by unfold Fx.U64; omega, (fun h => by cases h), fun _ => by have := P.out; omega⟩, G.below _⟩
theorem rhalved_w (h l H L : Int) (n : Nat) (h0 : Fx.U64 h) (l0 : Fx.U64 l) (n1 : n ≤ 127) (h5 : Fx.hup (Fx.wd h l) (2 ^ n) / 18446744073709551616 = H) (h6 : Fx.hup (Fx.wd h l) (2 ^ n) % 18446744073709551616 = L) (w : World) :
    Calls Try.prog 147 #[.int .u64 h, .int .u64 l, .int .i64 n] w fun e w' => e = .returned (.tuple #[.int .u64 H, .int .u64 L]) ∧ Below w.heap.size w w' := by
  cases n with
  | zero =>
    rw [hup_one] at h5 h6
    unfold Fx.wd Fx.U64 at *
    obtain rfl : h = H := by omega
    obtain rfl : l = L := by omega
    exact (rhalved_0 h l w).mono fun e w' ⟨h1, h2⟩ => ⟨h1, by rw [h2]; exact Below.refl _ _⟩
  | succ n =>
    exact (rhalved_s h l H L n h0 l0 (by omega) h5 h6 w).mono fun e w' ⟨h1, h2⟩ => ⟨h1, by rw [h2]; exact Below.refl _ _⟩
theorem rsize_w (a A : Int) (h : Fx.R64 a) (hA : az a = A) (w : World) :
    Calls Try.prog 134 #[.int .i64 a] w fun e w' => e = .returned (.int .u64 A) ∧ Below w.heap.size w w' := by
  subst hA; exact (rsize_any a h.1 h.2 w).mono fun e w' ⟨h1, h2⟩ => ⟨h1, by rw [h2]; exact Below.refl _ _⟩
theorem mul64_w (x y H L : Int) (hx : Fx.U64 x) (hy : Fx.U64 y) (hH : x * y / 18446744073709551616 = H) (hL : x * y % 18446744073709551616 = L) (w : World) :
    Calls Try.prog 133 #[.int .u64 x, .int .u64 y] w fun e w' => e = .returned (.tuple #[.int .u64 H, .int .u64 L]) ∧ Below w.heap.size w w' := by
  subst hH; subst hL; exact (mul64_any x y hx hy w).mono fun e w' ⟨h1, h2⟩ => ⟨h1, by rw [h2]; exact Below.refl _ _⟩
theorem signed_b (m p V : Int) (ov neg : Bool) (m0 : Fx.U64 m) (h1 : ov = true → 9223372036854775807 < p) (h2 : ov = false → p = m) (hV : Fx.sgV neg p = V) (w : World) :
    Calls Try.prog 148 #[.int .u64 m, .bool ov, .bool neg] w fun e w' => e = .returned (.int .i64 V) ∧ Below w.heap.size w w' :=
  (signed_w m p V ov neg m0 h1 h2 hV w).mono fun e w' ⟨h1, h2⟩ => ⟨h1, by rw [h2]; exact Below.refl _ _⟩
theorem rMul_no (a b n : Int) (hn : n < 0 ∨ 126 < n) (w : World) :
    Calls Try.prog 68 #[.int .i64 a, .int .i64 b, .int .i64 n] w fun e w' => e = .returned (.tuple #[.int .i64 0, .int .i64 2]) ∧ Below w.heap.size w w' := by
  by_cases h1 : n < 0
  · refine calls_g fun g => ?_
    go_enter Try.func68, Try.ntmps68
    go_wp2_with (with_reducible refine G.any_mark _ ?_; (try generalize Array.size (World.heap (G.w _)) = bk); (try dsimp only [List.set_cons_zero, List.set_cons_succ]); (try clear g); intro g)
    go_ret2
    exact ⟨rfl, G.below _⟩
  · have h2 : 126 < n := by omega
    refine calls_g fun g => ?_
    go_enter Try.func68, Try.ntmps68
    go_wp2_with (with_reducible refine G.any_mark _ ?_; (try generalize Array.size (World.heap (G.w _)) = bk); (try dsimp only [List.set_cons_zero, List.set_cons_succ]); (try clear g); intro g)
    go_ret2
    exact ⟨rfl, G.below _⟩
set_option maxHeartbeats 1000000 in
theorem rMul_yes (a b : Int) (n : Nat) (ha : Fx.R64 a) (hb : Fx.R64 b) (hn : n ≤ 126) (V : Int) (hV : mlV a b n = V) (w : World) :
    Calls Try.prog 68 #[.int .i64 a, .int .i64 b, .int .i64 n] w fun e w' => e = .returned (.tuple #[.int .i64 V, .int .i64 0]) ∧ Below w.heap.size w w' := by
  obtain ⟨A, eA⟩ : ∃ v, az a = v := ⟨_, rfl⟩
  obtain ⟨B, eB⟩ : ∃ v, az b = v := ⟨_, rfl⟩
  have uA := az_u ha
  have uB := az_u hb
  rw [eA] at uA
  rw [eB] at uB
  have pu := prod_u ⟨uA.2.2, uA.2.1⟩ ⟨uB.2.2, uB.2.1⟩
  unfold mlV sgN at hV
  rw [eA, eB] at hV
  obtain ⟨H1, e1⟩ : ∃ v, A * B / 18446744073709551616 = v := ⟨_, rfl⟩
  obtain ⟨L1, e2⟩ : ∃ v, A * B % 18446744073709551616 = v := ⟨_, rfl⟩
  have q := hup_le (A * B) n pu.1
  have u1 : Fx.U64 H1 ∧ Fx.U64 L1 ∧ Fx.wd H1 L1 = A * B := by unfold Fx.U64 Fx.wd; omega
  obtain ⟨H2, e3⟩ : ∃ v, Fx.hup (A * B) (2 ^ n) / 18446744073709551616 = v := ⟨_, rfl⟩
  obtain ⟨L2, e4⟩ : ∃ v, Fx.hup (A * B) (2 ^ n) % 18446744073709551616 = v := ⟨_, rfl⟩
  have u2 : Fx.U64 H2 ∧ Fx.U64 L2 ∧ (0 < H2 → 9223372036854775807 < Fx.hup (A * B) (2 ^ n)) ∧ (¬ 0 < H2 → Fx.hup (A * B) (2 ^ n) = L2) := by unfold Fx.U64; omega
  have CA := Lib.hid (fun w => rsize_w a A ha eA w)
  have CB := Lib.hid (fun w => rsize_w b B hb eB w)
  have CT := Lib.hid (fun w => mul64_w A B H1 L1 uA.1 uB.1 e1 e2 w)
  have CH := Lib.hid (fun w => rhalved_w H1 L1 H2 L2 n u1.1 u1.2.1 (by omega) (by rw [u1.2.2]; exact e3) (by rw [u1.2.2]; exact e4) w)
  have CV := Lib.hid (fun w => signed_b L2 _ V (decide (0 < H2)) (decide (a < 0) != decide (b < 0)) u2.2.1 (fun h => u2.2.2.1 (by simpa using h)) (fun h => u2.2.2.2 (by simpa using h)) hV w)
  have n0 : (0 : Int) ≤ n := by omega
  have n1 : (n : Int) ≤ 126 := by omega
  clear u1 u2 e1 e2 e3 e4 q pu hV uA uB eA eB ha hb hn
  refine calls_g fun g => ?_
  go_enter Try.func68, Try.ntmps68
  go_wp2_with (with_reducible refine G.any_mark _ ?_; (try generalize Array.size (World.heap (G.w _)) = bk); (try dsimp only [List.set_cons_zero, List.set_cons_succ]); (try clear g); intro g)
  refine (CA.out _).mono ?_; rintro e w1 ⟨rfl, hb⟩; obtain ⟨g1, rfl⟩ := G.call_ex _ hb; clear hb; (try clear g); revert g1; intro g
  go_wp2_with (with_reducible refine G.any_mark _ ?_; (try generalize Array.size (World.heap (G.w _)) = bk); (try dsimp only [List.set_cons_zero, List.set_cons_succ]); (try clear g); intro g)
  refine (CB.out _).mono ?_; rintro e w1 ⟨rfl, hb⟩; obtain ⟨g1, rfl⟩ := G.call_ex _ hb; clear hb; (try clear g); revert g1; intro g
  go_wp2_with (with_reducible refine G.any_mark _ ?_; (try generalize Array.size (World.heap (G.w _)) = bk); (try dsimp only [List.set_cons_zero, List.set_cons_succ]); (try clear g); intro g)
  refine (CT.out _).mono ?_; rintro e w1 ⟨rfl, hb⟩; obtain ⟨g1, rfl⟩ := G.call_ex _ hb; clear hb; (try clear g); revert g1; intro g
  go_wp2_with (with_reducible refine G.any_mark _ ?_; (try generalize Array.size (World.heap (G.w _)) = bk); (try dsimp only [List.set_cons_zero, List.set_cons_succ]); (try clear g); intro g)
  refine (CH.out _).mono ?_; rintro e w1 ⟨rfl, hb⟩; obtain ⟨g1, rfl⟩ := G.call_ex _ hb; clear hb; (try clear g); revert g1; intro g
  go_wp2_with (with_reducible refine G.any_mark _ ?_; (try generalize Array.size (World.heap (G.w _)) = bk); (try dsimp only [List.set_cons_zero, List.set_cons_succ]); (try clear g); intro g)
  refine (CV.out _).mono ?_; rintro e w1 ⟨rfl, hb⟩; obtain ⟨g1, rfl⟩ := G.call_ex _ hb; clear hb; (try clear g); revert g1; intro g
  go_wp2_with (with_reducible refine G.any_mark _ ?_; (try generalize Array.size (World.heap (G.w _)) = bk); (try dsimp only [List.set_cons_zero, List.set_cons_succ]); (try clear g); intro g)
  go_ret2
  exact ⟨rfl, G.below _⟩
end Go.Proofs.Ytgehbebjgmeccaa
