/- Contracts of functions of the program and of its reference, out of walks. Their conditions stand ahead of each. -/
import Derived.Test.YtgehbebjgmeccaaW53
set_option linter.unusedVariables false
set_option linter.unusedSimpArgs false
namespace Go.Proofs.Ytgehbebjgmeccaa
open Go.RowKit GW
set_option maxHeartbeats 2000000 in
theorem Ratio_yes (a b c : Int) (ha : Fx.R64 a) (hb : Fx.R64 b) (hc : Fx.R64 c) (c0 : c ≠ 0) (V : Int) (hV : rtV a b c = V) (w : World) :
    Calls Try.prog 71 #[.int .i64 a, .int .i64 b, .int .i64 c] w fun e w' => e = .returned (.tuple #[.int .i64 V, .int .i64 0]) ∧ Below w.heap.size w w' := by
  obtain ⟨A, eA⟩ : ∃ v, az a = v := ⟨_, rfl⟩
  obtain ⟨B, eB⟩ : ∃ v, az b = v := ⟨_, rfl⟩
  obtain ⟨C, eC⟩ : ∃ v, az c = v := ⟨_, rfl⟩
  have uA := az_u ha
  have uB := az_u hb
  have uC := az_u hc
  have pC := az_pos c0
  rw [eA] at uA
  rw [eB] at uB
  rw [eC] at uC pC
  unfold rtV sgN at hV
  rw [eA, eB, eC] at hV
  have pu := prod_u ⟨uA.2.2, uA.2.1⟩ ⟨uB.2.2, uB.2.1⟩
  obtain ⟨H1, e1⟩ : ∃ v, A * B / 18446744073709551616 = v := ⟨_, rfl⟩
  obtain ⟨L1, e2⟩ : ∃ v, A * B % 18446744073709551616 = v := ⟨_, rfl⟩
  have q := hup_le2 (A * B) C pu.1 pC
  have u1 : Fx.U64 H1 ∧ Fx.U64 L1 ∧ Fx.wd H1 L1 = A * B := by unfold Fx.U64 Fx.wd; omega
  obtain ⟨H2, e3⟩ : ∃ v, Fx.hup (A * B) C / 18446744073709551616 = v := ⟨_, rfl⟩
  obtain ⟨L2, e4⟩ : ∃ v, Fx.hup (A * B) C % 18446744073709551616 = v := ⟨_, rfl⟩
  have u2 : Fx.U64 H2 ∧ Fx.U64 L2 ∧ Fx.wd H2 L2 = Fx.hup (A * B) C := by unfold Fx.U64 Fx.wd; omega
  have CA := Lib.hid (fun w => size_w a A ha eA w)
  have CB := Lib.hid (fun w => size_w b B hb eB w)
  have CC := Lib.hid (fun w => size_w c C hc eC w)
  have CT := Lib.hid (fun w => times_w A B H1 L1 uA.1 uB.1 e1 e2 w)
  have CO := Lib.hid (fun w => over_w H1 L1 C H2 L2 u1.1 u1.2.1 pC (by have := uC.2.1; omega) (by rw [u1.2.2]; exact e3) (by rw [u1.2.2]; exact e4) (by rw [u1.2.2]; omega) w)
  have CV := Lib.hid (fun w => value_w H2 L2 V ((decide (a < 0) != decide (b < 0)) != decide (c < 0)) u2.1 u2.2.1 (by rw [u2.2.2]; exact hV) w)
  have t0 : (c == 0) = false := by simpa using c0
  clear u1 u2 e1 e2 e3 e4 q pu hV uA uB uC eA eB eC ha hb hc pC
  refine calls_g fun g => ?_
  go_enter Try.func71, Try.ntmps71
  go_wp2_with (first | (with_reducible refine G.any_mark _ ?_; (try generalize Array.size (World.heap (G.w _)) = bk); (try dsimp only [List.set_cons_zero, List.set_cons_succ]); (try clear g); intro g) | (go_at_call 142; go_in) | (go_at_call 149; go_in) | (go_at_call 141; go_in) | (go_at_call 175; go_in) | (go_at_call 177; go_in) | go_back | (refine wp_loop_rounds 3 ?_; rw [rounds_succ]) | rw [rounds_succ])
  refine (CA.out _).mono ?_; rintro e w1 ⟨rfl, hb⟩; obtain ⟨g1, rfl⟩ := G.call_ex _ hb; clear hb; (try clear g); revert g1; intro g
  go_wp2_with (with_reducible refine G.any_mark _ ?_; (try generalize Array.size (World.heap (G.w _)) = bk); (try dsimp only [List.set_cons_zero, List.set_cons_succ]); (try clear g); intro g)
  refine (CB.out _).mono ?_; rintro e w1 ⟨rfl, hb⟩; obtain ⟨g1, rfl⟩ := G.call_ex _ hb; clear hb; (try clear g); revert g1; intro g
  go_wp2_with (with_reducible refine G.any_mark _ ?_; (try generalize Array.size (World.heap (G.w _)) = bk); (try dsimp only [List.set_cons_zero, List.set_cons_succ]); (try clear g); intro g)
  refine (CT.out _).mono ?_; rintro e w1 ⟨rfl, hb⟩; obtain ⟨g1, rfl⟩ := G.call_ex _ hb; clear hb; (try clear g); revert g1; intro g
  go_wp2_with (with_reducible refine G.any_mark _ ?_; (try generalize Array.size (World.heap (G.w _)) = bk); (try dsimp only [List.set_cons_zero, List.set_cons_succ]); (try clear g); intro g)
  refine (CC.out _).mono ?_; rintro e w1 ⟨rfl, hb⟩; obtain ⟨g1, rfl⟩ := G.call_ex _ hb; clear hb; (try clear g); revert g1; intro g
  go_wp2_with (with_reducible refine G.any_mark _ ?_; (try generalize Array.size (World.heap (G.w _)) = bk); (try dsimp only [List.set_cons_zero, List.set_cons_succ]); (try clear g); intro g)
  refine (CO.out _).mono ?_; rintro e w1 ⟨rfl, hb⟩; obtain ⟨g1, rfl⟩ := G.call_ex _ hb; clear hb; (try clear g); revert g1; intro g
  go_wp2_with (with_reducible refine G.any_mark _ ?_; (try generalize Array.size (World.heap (G.w _)) = bk); (try dsimp only [List.set_cons_zero, List.set_cons_succ]); (try clear g); intro g)
  refine (CV.out _).mono ?_; rintro e w1 ⟨rfl, hb⟩; obtain ⟨g1, rfl⟩ := G.call_ex _ hb; clear hb; (try clear g); revert g1; intro g
  go_wp2_with (with_reducible refine G.any_mark _ ?_; (try generalize Array.size (World.heap (G.w _)) = bk); (try dsimp only [List.set_cons_zero, List.set_cons_succ]); (try clear g); intro g)
  go_ret2
  exact ⟨rfl, G.below _⟩
end Go.Proofs.Ytgehbebjgmeccaa
