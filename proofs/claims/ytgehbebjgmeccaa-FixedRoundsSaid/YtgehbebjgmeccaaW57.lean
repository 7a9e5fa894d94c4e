/- Contracts of functions of the program and of its reference, out of walks. Their conditions stand ahead of each. -/
import Derived.Test.YtgehbebjgmeccaaW56
set_option linter.unusedVariables false
set_option linter.unusedSimpArgs false
namespace Go.Proofs.Ytgehbebjgmeccaa
open Go.RowKit GW
theorem rDiv_range (a b n : Int) (hn : n < 0 ∨ 62 < n) (w : World) :
    Calls Try.prog 70 #[.int .i64 a, .int .i64 b, .int .i64 n] w fun e w' => e = .returned (.tuple #[.int .i64 0, .int .i64 2]) ∧ Below w.heap.size w w' := by
  by_cases h1 : n < 0
  · refine calls_g fun g => ?_
    go_enter Try.func70, Try.ntmps70
    go_wp2_with (with_reducible refine G.any_mark _ ?_; (try generalize Array.size (World.heap (G.w _)) = bk); (try dsimp only [List.set_cons_zero, List.set_cons_succ]); (try clear g); intro g)
    go_ret2
    exact ⟨rfl, G.below _⟩
  · have h2 : 62 < n := by omega
    refine calls_g fun g => ?_
    go_enter Try.func70, Try.ntmps70
    go_wp2_with (with_reducible refine G.any_mark _ ?_; (try generalize Array.size (World.heap (G.w _)) = bk); (try dsimp only [List.set_cons_zero, List.set_cons_succ]); (try clear g); intro g)
    go_ret2
    exact ⟨rfl, G.below _⟩
theorem rDiv_zero (a n : Int) (n0 : 0 ≤ n) (n1 : n ≤ 62) (w : World) :
    Calls Try.prog 70 #[.int .i64 a, .int .i64 0, .int .i64 n] w fun e w' => e = .returned (.tuple #[.int .i64 0, .int .i64 6]) ∧ Below w.heap.size w w' := by
  have n2 : ¬ n < 0 := by omega
  have n3 : ¬ 62 < n := by omega
  refine calls_g fun g => ?_
  go_enter Try.func70, Try.ntmps70
  go_wp2_with (with_reducible refine G.any_mark _ ?_; (try generalize Array.size (World.heap (G.w _)) = bk); (try dsimp only [List.set_cons_zero, List.set_cons_succ]); (try clear g); intro g)
  go_ret2
  exact ⟨rfl, G.below _⟩
theorem rRatio_zero (a b : Int) (w : World) :
    Calls Try.prog 72 #[.int .i64 a, .int .i64 b, .int .i64 0] w fun e w' => e = .returned (.tuple #[.int .i64 0, .int .i64 6]) ∧ Below w.heap.size w w' := by
  refine calls_g fun g => ?_
  go_enter Try.func72, Try.ntmps72
  go_wp2_with (with_reducible refine G.any_mark _ ?_; (try generalize Array.size (World.heap (G.w _)) = bk); (try dsimp only [List.set_cons_zero, List.set_cons_succ]); (try clear g); intro g)
  go_ret2
  exact ⟨rfl, G.below _⟩
set_option maxHeartbeats 2000000 in
theorem rDiv_yes (a b : Int) (n : Nat) (ha : Fx.R64 a) (hb : Fx.R64 b) (b0 : b ≠ 0) (hn : n ≤ 62) (V : Int) (hV : dvV a b n = V) (w : World) :
    Calls Try.prog 70 #[.int .i64 a, .int .i64 b, .int .i64 n] w fun e w' => e = .returned (.tuple #[.int .i64 V, .int .i64 0]) ∧ Below w.heap.size w w' := by
  obtain ⟨A, eA⟩ : ∃ v, az a = v := ⟨_, rfl⟩
  obtain ⟨B, eB⟩ : ∃ v, az b = v := ⟨_, rfl⟩
  have uA := az_u ha
  have uB := az_u hb
  have pB := az_pos b0
  rw [eA] at uA
  rw [eB] at uB pB
  have K0 := Fx.pow_pos' n
  have K1 := pow62 hn
  unfold dvV sgN at hV
  rw [eA, eB] at hV
  have wK : IntKind.u64.wrap (2 ^ n) = 2 ^ n := by rw [IntKind.wrap_u64]; omega
  have pu := prod_u ⟨uA.2.2, uA.2.1⟩ (B := 2 ^ n) ⟨by omega, by omega⟩
  generalize hK : (2 : Int) ^ n = K at *
  obtain ⟨H1, e1⟩ : ∃ v, A * K / 18446744073709551616 = v := ⟨_, rfl⟩
  obtain ⟨L1, e2⟩ : ∃ v, A * K % 18446744073709551616 = v := ⟨_, rfl⟩
  have u1 : Fx.U64 H1 ∧ Fx.U64 L1 ∧ Fx.wd H1 L1 = A * K := by unfold Fx.U64 Fx.wd; omega
  have CA := Lib.hid (fun w => rsize_w a A ha eA w)
  have CB := Lib.hid (fun w => rsize_w b B hb eB w)
  have CT := Lib.hid (fun w => mul64_w A K H1 L1 uA.1 (by unfold Fx.U64; omega) e1 e2 w)
  have CO := Lib.hid (fun w => divided_w H1 L1 B _ u1.1 u1.2.1 pB (by have := uB.2.1; omega) (by rw [u1.2.2]) w)
  have HV := Lib.hid hV
  have n0 : (0 : Int) ≤ n := by omega
  have n1 : (n : Int) ≤ 62 := by omega
  have t0 : (b == 0) = false := by simpa using b0
  clear u1 e1 e2 pu hV uA uB eA eB ha hb hn K0 K1 pB
  refine calls_g fun g => ?_
  go_enter Try.func70, Try.ntmps70
  go_wp2_with (with_reducible refine G.any_mark _ ?_; (try generalize Array.size (World.heap (G.w _)) = bk); (try dsimp only [List.set_cons_zero, List.set_cons_succ]); (try clear g); intro g)
  go_region_held3 (fun _ => True) (trivial) (first | (go_at_call 134; refine (CA.out _).mono ?_; rintro e w1 ⟨rfl, hb⟩; obtain ⟨g1, rfl⟩ := G.call_ex _ hb; clear hb; (try clear g); revert g1; intro g) | (go_at_call 133; refine (CT.out _).mono ?_; rintro e w1 ⟨rfl, hb⟩; obtain ⟨g1, rfl⟩ := G.call_ex _ hb; clear hb; (try clear g); revert g1; intro g))
  all_goals
    (try ((try simp only [G.drew_eq, G.drewN_eq]); (refine G.any_mark _ ?_; (try generalize Array.size (World.heap (G.w _)) = bk); (try dsimp only [List.set_cons_zero, List.set_cons_succ]); (try clear g); intro g)))
    go_wp2_with (with_reducible refine G.any_mark _ ?_; (try generalize Array.size (World.heap (G.w _)) = bk); (try dsimp only [List.set_cons_zero, List.set_cons_succ]); (try clear g); intro g)
    refine (CB.out _).mono ?_; rintro e w1 ⟨rfl, hb⟩; obtain ⟨g1, rfl⟩ := G.call_ex _ hb; clear hb; (try clear g); revert g1; intro g
    go_wp2_with (with_reducible refine G.any_mark _ ?_; (try generalize Array.size (World.heap (G.w _)) = bk); (try dsimp only [List.set_cons_zero, List.set_cons_succ]); (try clear g); intro g)
    refine (CO.out _).mono ?_
    rintro e w1 ⟨⟨M, ov, rfl, m0, m1, m2⟩, hb⟩
    obtain ⟨g1, rfl⟩ := G.call_ex _ hb
    have CV := Lib.hid (fun w => signed_b M _ V ov (decide (a < 0) != decide (b < 0)) m0 m1 m2 HV.out w)
    clear hb m0 m1 m2
    go_wp2_with (with_reducible refine G.any_mark _ ?_; (try generalize Array.size (World.heap (G.w _)) = bk); (try dsimp only [List.set_cons_zero, List.set_cons_succ]); (try clear g); intro g)
    refine (CV.out _).mono ?_; rintro e w1 ⟨rfl, hb⟩; obtain ⟨g1, rfl⟩ := G.call_ex _ hb; clear hb; (try clear g); revert g1; intro g
    go_wp2_with (with_reducible refine G.any_mark _ ?_; (try generalize Array.size (World.heap (G.w _)) = bk); (try dsimp only [List.set_cons_zero, List.set_cons_succ]); (try clear g); intro g)
    go_ret2
    exact ⟨rfl, G.below _⟩
set_option maxHeartbeats 2000000 in
theorem rRatio_yes (a b c : Int) (ha : Fx.R64 a) (hb : Fx.R64 b) (hc : Fx.R64 c) (c0 : c ≠ 0) (V : Int) (hV : rtV a b c = V) (w : World) :
    Calls Try.prog 72 #[.int .i64 a, .int .i64 b, .int .i64 c] w fun e w' => e = .returned (.tuple #[.int .i64 V, .int .i64 0]) ∧ Below w.heap.size w w' := by
  obtain ⟨A, eA⟩ : ∃ v, az a = v := ⟨_, rfl⟩
  obtain ⟨B, eB⟩ : ∃ v, az b = v := ⟨_, rfl⟩
  obtain ⟨C, eC⟩ : ∃ v, az c = v := ⟨_, rfl⟩
  have uA := az_u ha
  have uB := az_u hb
  have uC := az_u hc
  have pC := az_pos c0
  rw [eA] at uA
  rw [eB] at uB
  rw [eC] at uC pC
  unfold rtV sgN at hV
  rw [eA, eB, eC] at hV
  have pu := prod_u ⟨uA.2.2, uA.2.1⟩ ⟨uB.2.2, uB.2.1⟩
  obtain ⟨H1, e1⟩ : ∃ v, A * B / 18446744073709551616 = v := ⟨_, rfl⟩
  obtain ⟨L1, e2⟩ : ∃ v, A * B % 18446744073709551616 = v := ⟨_, rfl⟩
  have u1 : Fx.U64 H1 ∧ Fx.U64 L1 ∧ Fx.wd H1 L1 = A * B := by unfold Fx.U64 Fx.wd; omega
  have CA := Lib.hid (fun w => rsize_w a A ha eA w)
  have CB := Lib.hid (fun w => rsize_w b B hb eB w)
  have CC := Lib.hid (fun w => rsize_w c C hc eC w)
  have CT := Lib.hid (fun w => mul64_w A B H1 L1 uA.1 uB.1 e1 e2 w)
  have CO := Lib.hid (fun w => divided_w H1 L1 C _ u1.1 u1.2.1 pC (by have := uC.2.1; omega) (by rw [u1.2.2]) w)
  have HV := Lib.hid hV
  have t0 : (c == 0) = false := by simpa using c0
  clear u1 e1 e2 pu hV uA uB uC eA eB eC ha hb hc pC
  refine calls_g fun g => ?_
  go_enter Try.func72, Try.ntmps72
  go_wp2_with (with_reducible refine G.any_mark _ ?_; (try generalize Array.size (World.heap (G.w _)) = bk); (try dsimp only [List.set_cons_zero, List.set_cons_succ]); (try clear g); intro g)
  refine (CA.out _).mono ?_; rintro e w1 ⟨rfl, hb⟩; obtain ⟨g1, rfl⟩ := G.call_ex _ hb; clear hb; (try clear g); revert g1; intro g
  go_wp2_with (with_reducible refine G.any_mark _ ?_; (try generalize Array.size (World.heap (G.w _)) = bk); (try dsimp only [List.set_cons_zero, List.set_cons_succ]); (try clear g); intro g)
  refine (CB.out _).mono ?_; rintro e w1 ⟨rfl, hb⟩; obtain ⟨g1, rfl⟩ := G.call_ex _ hb; clear hb; (try clear g); revert g1; intro g
  go_wp2_with (with_reducible refine G.any_mark _ ?_; (try generalize Array.size (World.heap (G.w _)) = bk); (try dsimp only [List.set_cons_zero, List.set_cons_succ]); (try clear g); intro g)
  refine (CT.out _).mono ?_; rintro e w1 ⟨rfl, hb⟩; obtain ⟨g1, rfl⟩ := G.call_ex _ hb; clear hb; (try clear g); revert g1; intro g
  go_wp2_with (with_reducible refine G.any_mark _ ?_; (try generalize Array.size (World.heap (G.w _)) = bk); (try dsimp only [List.set_cons_zero, List.set_cons_succ]); (try clear g); intro g)
  refine (CC.out _).mono ?_; rintro e w1 ⟨rfl, hb⟩; obtain ⟨g1, rfl⟩ := G.call_ex _ hb; clear hb; (try clear g); revert g1; intro g
  go_wp2_with (with_reducible refine G.any_mark _ ?_; (try generalize Array.size (World.heap (G.w _)) = bk); (try dsimp only [List.set_cons_zero, List.set_cons_succ]); (try clear g); intro g)
  refine (CO.out _).mono ?_
  rintro e w1 ⟨⟨M, ov, rfl, m0, m1, m2⟩, hb⟩
  obtain ⟨g1, rfl⟩ := G.call_ex _ hb
  have CV := Lib.hid (fun w => signed_b M _ V ov ((decide (a < 0) != decide (b < 0)) != decide (c < 0)) m0 m1 m2 HV.out w)
  clear hb m0 m1 m2
  go_wp2_with (with_reducible refine G.any_mark _ ?_; (try generalize Array.size (World.heap (G.w _)) = bk); (try dsimp only [List.set_cons_zero, List.set_cons_succ]); (try clear g); intro g)
  refine (CV.out _).mono ?_; rintro e w1 ⟨rfl, hb⟩; obtain ⟨g1, rfl⟩ := G.call_ex _ hb; clear hb; (try clear g); revert g1; intro g
  go_wp2_with (with_reducible refine G.any_mark _ ?_; (try generalize Array.size (World.heap (G.w _)) = bk); (try dsimp only [List.set_cons_zero, List.set_cons_succ]); (try clear g); intro g)
  go_ret2
  exact ⟨rfl, G.below _⟩
end Go.Proofs.Ytgehbebjgmeccaa
