/- Contracts of functions of the program and of its reference, out of walks. Their conditions stand ahead of each. -/
import Derived.Test.YtgehbebjgmeccaaW61
set_option linter.unusedVariables false
set_option linter.unusedSimpArgs false
namespace Go.Proofs.Ytgehbebjgmeccaa
open Go.RowKit GW
def sgn3 (b c : Int) : Int := if b < c then -1 else if c < b then 1 else 0
theorem cmp_dm (b c : Int) : orV (sg (b / 18446744073709551616) (c / 18446744073709551616)) (sg (b % 18446744073709551616) (c % 18446744073709551616)) = sgn3 b c := by
  unfold orV sg sgn3
  repeat' split
  all_goals omega
theorem prod_i (a b p : Int) (ha : Fx.R64 a) (hb : Fx.R64 b) (hp : a * b = p) (w : World) :
    Calls Try.prog 95 #[.int .i64 a, .int .i64 b] w fun e w' => e = .returned (.agg #[.int .i64 (p / 18446744073709551616), .int .u64 (p % 18446744073709551616)]) ∧ Below w.heap.size w w' := by
  subst hp; exact prod_any a b ha hb w
theorem tdiv2 (b : Int) : b.tdiv 2 = if 0 ≤ b then b / 2 else -((-b) / 2) := by
  by_cases h : 0 ≤ b
  · rw [if_pos h, Int.tdiv_eq_ediv_of_nonneg h]
  · rw [if_neg h]
    have e : b.tdiv 2 = -((-b).tdiv 2) := by rw [Int.neg_tdiv, Int.neg_neg]
    rw [e, Int.tdiv_eq_ediv_of_nonneg (by omega)]
theorem ring_plain (a b c : Int) (ha : Fx.R64 a) (hb : -4611686018427387904 ≤ b ∧ b ≤ 4611686018427387903) (hc : -4611686018427387904 ≤ c ∧ c ≤ 4611686018427387903) :
    Fx.R64 b ∧ Fx.R64 c ∧ Fx.R64 (b + c) ∧ Fx.in128 (a * b) ∧ Fx.in128 (a * c) ∧ Fx.in128 (a * b + a * c) ∧ a * (b + c) = a * b + a * c := by
  unfold Fx.R64 at ha
  have p1 : -42535295865117307932921825928971026432 ≤ a * b ∧ a * b ≤ 42535295865117307932921825928971026432 := by
    obtain ⟨x, y⟩ := mulbd a b 9223372036854775808 4611686018427387904 (by omega) (by omega) (by omega) (by omega)
    constructor <;> omega
  have p2 : -42535295865117307932921825928971026432 ≤ a * c ∧ a * c ≤ 42535295865117307932921825928971026432 := by
    obtain ⟨x, y⟩ := mulbd a c 9223372036854775808 4611686018427387904 (by omega) (by omega) (by omega) (by omega)
    constructor <;> omega
  unfold Fx.R64 Fx.in128
  refine ⟨by omega, by omega, by omega, by omega, by omega, by omega, Int.mul_add a b c⟩
set_option maxHeartbeats 4000000 in
set_option maxRecDepth 100000 in
theorem ring_walk (a b0 c0 : Int) (ha : Fx.R64 a) (hb0 : Fx.R64 b0) (hc0 : Fx.R64 c0) (w : World) :
    Calls Try.prog 21 #[.int .i64 a, .int .i64 b0, .int .i64 c0] w fun e w' => e = .returned (.bool true) ∧ Below w.heap.size w w' := by
  obtain ⟨b, eb⟩ : ∃ v, b0.tdiv 2 = v := ⟨_, rfl⟩
  obtain ⟨c, ec⟩ : ∃ v, c0.tdiv 2 = v := ⟨_, rfl⟩
  unfold Fx.R64 at hb0 hc0
  have hb : -4611686018427387904 ≤ b ∧ b ≤ 4611686018427387903 := by rw [← eb, tdiv2]; split <;> omega
  have hc : -4611686018427387904 ≤ c ∧ c ≤ 4611686018427387903 := by rw [← ec, tdiv2]; split <;> omega
  obtain ⟨r1, r2, r3, i1, i2, i3, hd⟩ := ring_plain a b c ha hb hc
  have r1' := r1
  have r2' := r2
  unfold Fx.R64 at r1' r2'
  obtain ⟨AB, e1⟩ : ∃ v, a * b = v := ⟨_, rfl⟩
  obtain ⟨AC, e2⟩ : ∃ v, a * c = v := ⟨_, rfl⟩
  rw [e1, e2] at hd i3
  rw [e1] at i1
  rw [e2] at i2
  have d1 := Fx.dm_rng i1
  have d2 := Fx.dm_rng i2
  have d3 := Fx.dm_rng i3
  have w1 := Fx.wd_dm AB
  have w2 := Fx.wd_dm AC
  have w3 := Fx.wd_dm (AB + AC)
  have o3 := Fx.ov_yes i3
  have o1 := Fx.ov_yes i1
  have ia : Fx.in128 a := by unfold Fx.R64 at ha; unfold Fx.in128; omega
  have ib : Fx.in128 b := by unfold Fx.in128; omega
  have ic : Fx.in128 c := by unfold Fx.in128; omega
  have ibc : Fx.in128 (b - c) := by unfold Fx.in128; omega
  have da := Fx.dm_rng ia
  have db := Fx.dm_rng ib
  have dc := Fx.dm_rng ic
  have dbc := Fx.dm_rng ibc
  have obc := Fx.ov_yes ibc
  have na := Fx.nw_yes ha
  obtain ⟨S, hS⟩ : ∃ v, sgn3 b c = v := ⟨_, rfl⟩
  have R1 : Fx.R64 1 := ⟨by decide, by decide⟩
  have C1 := Lib.hid (fun w => prod_i a b AB ha r1 e1 w)
  have C2 := Lib.hid (fun w => prod_i a c AC ha r2 e2 w)
  have C3 := Lib.hid (fun w => Plus_w _ _ _ _ _ _ 0 (AB + AC) d1.1 d1.2 d2.1 d2.2 (by rw [w1, w2]) o3.2.1 o3.2.2 o3.1 w)
  have C4 := Lib.hid (fun w => Minus_w _ _ _ _ _ _ 0 AB d3.1 d3.2 d2.1 d2.2 (by rw [w3, w2]; omega) o1.2.1 o1.2.2 o1.1 w)
  have C5 := Lib.hid (fun w => prod_i a 1 a ha R1 (by omega) w)
  have C6 := Lib.hid (fun w => Narrow_w _ _ a a 0 da.1 da.2 (Fx.wd_dm a) na.2 na.1 w)
  have C7 := Lib.hid (fun w => prod_i b 1 b r1 R1 (by omega) w)
  have C8 := Lib.hid (fun w => prod_i c 1 c r2 R1 (by omega) w)
  have C9 := Lib.hid (fun w => Minus_w _ _ _ _ _ _ 0 (b - c) db.1 db.2 dc.1 dc.2 (by rw [Fx.wd_dm, Fx.wd_dm]) obc.2.1 obc.2.2 obc.1 w)
  have C10 := Lib.hid (fun w => prod_i a (b + c) (AB + AC) ha r3 hd w)
  have C11 := Lib.hid (fun w => prod_i b a AB r1 ha (by rw [Int.mul_comm]; exact e1) w)
  have C12 := Lib.hid (fun w => Cmp_w (b / 18446744073709551616) (b % 18446744073709551616) (c / 18446744073709551616) (c % 18446744073709551616) S (by rw [cmp_dm]; exact hS) w)
  have z0 : orV (sg ((b - c) / 18446744073709551616) 0) (sg ((b - c) % 18446744073709551616) 0) = S := by
    have := cmp_dm (b - c) 0
    rw [show (0 : Int) / 18446744073709551616 = 0 by decide, show (0 : Int) % 18446744073709551616 = 0 by decide] at this
    rw [this, ← hS]; unfold sgn3; repeat' split
    all_goals omega
  have C13 := Lib.hid (fun w => Cmp_w ((b - c) / 18446744073709551616) ((b - c) % 18446744073709551616) 0 0 S z0 w)
  have wb : IntKind.i64.wrap b = b := IntWalk.i64_in _ (by omega)
  have wc : IntKind.i64.wrap c = c := IntWalk.i64_in _ (by omega)
  have wbc : IntKind.i64.wrap (b + c) = b + c := IntWalk.i64_in _ (by unfold Fx.R64 at r3; omega)
  have HS := Lib.hid hS
  generalize AB / 18446744073709551616 = AB1 at *
  generalize AB % 18446744073709551616 = AB2 at *
  generalize AC / 18446744073709551616 = AC1 at *
  generalize AC % 18446744073709551616 = AC2 at *
  generalize (AB + AC) / 18446744073709551616 = S1 at *
  generalize (AB + AC) % 18446744073709551616 = S2 at *
  generalize a / 18446744073709551616 = A1 at *
  generalize a % 18446744073709551616 = A2 at *
  generalize b / 18446744073709551616 = B1 at *
  generalize b % 18446744073709551616 = B2 at *
  generalize c / 18446744073709551616 = D1 at *
  generalize c % 18446744073709551616 = D2 at *
  generalize (b - c) / 18446744073709551616 = F1 at *
  generalize (b - c) % 18446744073709551616 = F2 at *
  clear e1 e2 hd d1 d2 d3 w1 w2 w3 o3 o1 ia ib ic ibc da db dc dbc obc na R1 i1 i2 i3 r1 r2 r3 ha hb hc hb0 hc0 z0 hS
  obtain ⟨r4, r5⟩ := r1'
  obtain ⟨r6, r7⟩ := r2'
  have hcase : (b < c ∧ S = -1) ∨ (c < b ∧ ¬ b < c ∧ S = 1) ∨ (¬ b < c ∧ ¬ c < b ∧ S = 0) := by
    have := HS.out
    unfold sgn3 at this
    split at this
    · exact .inl ⟨by assumption, this.symm⟩
    · split at this
      · exact .inr (.inl ⟨by assumption, by assumption, this.symm⟩)
      · exact .inr (.inr ⟨by assumption, by assumption, this.symm⟩)
  clear HS
  rcases hcase with ⟨h1, rfl⟩ | ⟨h1, h2, rfl⟩ | ⟨h1, h2, rfl⟩
  all_goals
    refine calls_g fun g => ?_
    go_enter Try.func21, Try.ntmps21
    go_wp2_with (with_reducible refine G.any_mark _ ?_; (try generalize Array.size (World.heap (G.w _)) = bk); (try dsimp only [List.set_cons_zero, List.set_cons_succ]); (try clear g); intro g)
    refine (C1.out _).mono ?_; rintro e w1 ⟨rfl, hb⟩; obtain ⟨g1, rfl⟩ := G.call_ex _ hb; clear hb; (try clear g); revert g1; intro g
    go_wp2_with (with_reducible refine G.any_mark _ ?_; (try generalize Array.size (World.heap (G.w _)) = bk); (try dsimp only [List.set_cons_zero, List.set_cons_succ]); (try clear g); intro g)
    refine (C2.out _).mono ?_; rintro e w1 ⟨rfl, hb⟩; obtain ⟨g1, rfl⟩ := G.call_ex _ hb; clear hb; (try clear g); revert g1; intro g
    go_wp2_with (with_reducible refine G.any_mark _ ?_; (try generalize Array.size (World.heap (G.w _)) = bk); (try dsimp only [List.set_cons_zero, List.set_cons_succ]); (try clear g); intro g)
    refine (C3.out _).mono ?_; rintro e w1 ⟨rfl, hb⟩; obtain ⟨g1, rfl⟩ := G.call_ex _ hb; clear hb; (try clear g); revert g1; intro g
    go_wp2_with (with_reducible refine G.any_mark _ ?_; (try generalize Array.size (World.heap (G.w _)) = bk); (try dsimp only [List.set_cons_zero, List.set_cons_succ]); (try clear g); intro g)
    refine (C4.out _).mono ?_; rintro e w1 ⟨rfl, hb⟩; obtain ⟨g1, rfl⟩ := G.call_ex _ hb; clear hb; (try clear g); revert g1; intro g
    go_wp2_with (with_reducible refine G.any_mark _ ?_; (try generalize Array.size (World.heap (G.w _)) = bk); (try dsimp only [List.set_cons_zero, List.set_cons_succ]); (try clear g); intro g)
    refine (C5.out _).mono ?_; rintro e w1 ⟨rfl, hb⟩; obtain ⟨g1, rfl⟩ := G.call_ex _ hb; clear hb; (try clear g); revert g1; intro g
    go_wp2_with (with_reducible refine G.any_mark _ ?_; (try generalize Array.size (World.heap (G.w _)) = bk); (try dsimp only [List.set_cons_zero, List.set_cons_succ]); (try clear g); intro g)
    refine (C6.out _).mono ?_; rintro e w1 ⟨rfl, hb⟩; obtain ⟨g1, rfl⟩ := G.call_ex _ hb; clear hb; (try clear g); revert g1; intro g
    go_wp2_with (with_reducible refine G.any_mark _ ?_; (try generalize Array.size (World.heap (G.w _)) = bk); (try dsimp only [List.set_cons_zero, List.set_cons_succ]); (try clear g); intro g)
    refine (C7.out _).mono ?_; rintro e w1 ⟨rfl, hb⟩; obtain ⟨g1, rfl⟩ := G.call_ex _ hb; clear hb; (try clear g); revert g1; intro g
    go_wp2_with (with_reducible refine G.any_mark _ ?_; (try generalize Array.size (World.heap (G.w _)) = bk); (try dsimp only [List.set_cons_zero, List.set_cons_succ]); (try clear g); intro g)
    refine (C8.out _).mono ?_; rintro e w1 ⟨rfl, hb⟩; obtain ⟨g1, rfl⟩ := G.call_ex _ hb; clear hb; (try clear g); revert g1; intro g
    go_wp2_with (with_reducible refine G.any_mark _ ?_; (try generalize Array.size (World.heap (G.w _)) = bk); (try dsimp only [List.set_cons_zero, List.set_cons_succ]); (try clear g); intro g)
    refine (C9.out _).mono ?_; rintro e w1 ⟨rfl, hb⟩; obtain ⟨g1, rfl⟩ := G.call_ex _ hb; clear hb; (try clear g); revert g1; intro g
    go_wp2_with (with_reducible refine G.any_mark _ ?_; (try generalize Array.size (World.heap (G.w _)) = bk); (try dsimp only [List.set_cons_zero, List.set_cons_succ]); (try clear g); intro g)
    (try ((try simp only [G.drew_eq, G.drewN_eq]); (refine G.any_mark _ ?_; (try generalize Array.size (World.heap (G.w _)) = bk); (try dsimp only [List.set_cons_zero, List.set_cons_succ]); (try clear g); intro g)))
    go_region_held3 (G.held g) (simp [G.held, HeldL, go_sem]) (first | (go_at_call 73; refine (lives1_any _).mono ?_; rintro e w1 ⟨rfl, hb⟩; obtain ⟨g1, rfl⟩ := G.call_ex _ hb; clear hb; (try clear g); revert g1; intro g) | (go_at_call 95; (first | (with_reducible refine (C10.out _).mono ?_) | (with_reducible refine (C11.out _).mono ?_)); rintro e w1 ⟨rfl, hb⟩; obtain ⟨g1, rfl⟩ := G.call_ex _ hb; clear hb; (try clear g); revert g1; intro g))
    all_goals
      (try ((try simp only [G.drew_eq, G.drewN_eq]); (refine G.any_mark _ ?_; (try generalize Array.size (World.heap (G.w _)) = bk); (try dsimp only [List.set_cons_zero, List.set_cons_succ]); (try clear g); intro g)))
      go_wp2_with (with_reducible refine G.any_mark _ ?_; (try generalize Array.size (World.heap (G.w _)) = bk); (try dsimp only [List.set_cons_zero, List.set_cons_succ]); (try clear g); intro g)
      refine (C7.out _).mono ?_; rintro e w1 ⟨rfl, hb⟩; obtain ⟨g1, rfl⟩ := G.call_ex _ hb; clear hb; (try clear g); revert g1; intro g
      go_wp2_with (with_reducible refine G.any_mark _ ?_; (try generalize Array.size (World.heap (G.w _)) = bk); (try dsimp only [List.set_cons_zero, List.set_cons_succ]); (try clear g); intro g)
      refine (C8.out _).mono ?_; rintro e w1 ⟨rfl, hb⟩; obtain ⟨g1, rfl⟩ := G.call_ex _ hb; clear hb; (try clear g); revert g1; intro g
      go_wp2_with (with_reducible refine G.any_mark _ ?_; (try generalize Array.size (World.heap (G.w _)) = bk); (try dsimp only [List.set_cons_zero, List.set_cons_succ]); (try clear g); intro g)
      refine (C12.out _).mono ?_; rintro e w1 ⟨rfl, hb⟩; obtain ⟨g1, rfl⟩ := G.call_ex _ hb; clear hb; (try clear g); revert g1; intro g
      go_wp2_with (with_reducible refine G.any_mark _ ?_; (try generalize Array.size (World.heap (G.w _)) = bk); (try dsimp only [List.set_cons_zero, List.set_cons_succ]); (try clear g); intro g)
      refine (C13.out _).mono ?_; rintro e w1 ⟨rfl, hb⟩; obtain ⟨g1, rfl⟩ := G.call_ex _ hb; clear hb; (try clear g); revert g1; intro g
      go_wp2_with (with_reducible refine G.any_mark _ ?_; (try generalize Array.size (World.heap (G.w _)) = bk); (try dsimp only [List.set_cons_zero, List.set_cons_succ]); (try clear g); intro g)
      go_ret
      exact ⟨rfl, G.below _⟩
end Go.Proofs.Ytgehbebjgmeccaa
