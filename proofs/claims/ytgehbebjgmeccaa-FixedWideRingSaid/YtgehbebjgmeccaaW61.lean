/- Contracts of functions of the program and of its reference, out of walks. Their conditions stand ahead of each. -/
import Derived.Test.YtgehbebjgmeccaaW60
import Derived.Test.YtgehbebjgmeccaaW33
set_option linter.unusedVariables false
set_option linter.unusedSimpArgs false
namespace Go.Proofs.Ytgehbebjgmeccaa
open Go.RowKit GW
theorem Minus_w (a0 a1 b0 b1 A B E s : Int) (h1 : Fx.R64 a0) (h2 : Fx.U64 a1) (h3 : Fx.R64 b0) (h4 : Fx.U64 b1) (hs : Fx.wd a0 a1 - Fx.wd b0 b1 = s) (hA : Fx.ovH s = A) (hB : Fx.ovL s = B) (hE : Fx.ovE s = E) (w : World) :
    Calls Try.prog 97 #[.agg #[.int .i64 a0, .int .u64 a1], .agg #[.int .i64 b0, .int .u64 b1]] w fun e w' =>
      e = .returned (.tuple #[.agg #[.int .i64 A, .int .u64 B], .int .i64 E]) ∧ Below w.heap.size w w' := by
  subst hA; subst hB; subst hE; subst hs; exact Minus_any a0 a1 b0 b1 h1 h2 h3 h4 w
theorem rMinus_w (a0 a1 b0 b1 A B E s : Int) (h1 : Fx.R64 a0) (h2 : Fx.U64 a1) (h3 : Fx.R64 b0) (h4 : Fx.U64 b1) (hs : Fx.wd a0 a1 - Fx.wd b0 b1 = s) (hA : Fx.ovH s = A) (hB : Fx.ovL s = B) (hE : Fx.ovE s = E) (w : World) :
    Calls Try.prog 101 #[.agg #[.int .i64 a0, .int .u64 a1], .agg #[.int .i64 b0, .int .u64 b1]] w fun e w' =>
      e = .returned (.tuple #[.agg #[.int .i64 A, .int .u64 B], .int .i64 E]) ∧ Below w.heap.size w w' := by
  subst hA; subst hB; subst hE; subst hs; exact rMinus_any a0 a1 b0 b1 h1 h2 h3 h4 w
theorem rNorm_w (x y z s A B E : Int) (hx : Fx.R64 x) (hy : Fx.R64 y) (hz : Fx.R64 z) (hs : x * x + y * y + z * z = s) (hA : Fx.ovH s = A) (hB : Fx.ovL s = B) (hE : Fx.ovE s = E) (w : World) :
    Calls Try.prog 104 #[.agg #[.int .i64 x, .int .i64 y, .int .i64 z]] w fun e w' =>
      e = .returned (.tuple #[.agg #[.int .i64 A, .int .u64 B], .int .i64 E]) ∧ Below w.heap.size w w' := by
  subst hA; subst hB; subst hE; subst hs; exact rNorm_any x y z hx hy hz w
theorem Cmp_w (a b c d V : Int) (hV : orV (sg a c) (sg b d) = V) (w : World) : Calls Try.prog 99 #[.agg #[.int .i64 a, .int .u64 b], .agg #[.int .i64 c, .int .u64 d]] w fun e w' => e = .returned (.int .i64 V) ∧ Below w.heap.size w w' := by
  subst hV; exact Cmp_any a b c d w
theorem rCmp_w (a b c d V : Int) (hV : orV (sg a c) (sg b d) = V) (w : World) : Calls Try.prog 105 #[.agg #[.int .i64 a, .int .u64 b], .agg #[.int .i64 c, .int .u64 d]] w fun e w' => e = .returned (.int .i64 V) ∧ Below w.heap.size w w' := by
  subst hV; exact rCmp_any a b c d w
set_option maxHeartbeats 4000000 in
set_option maxRecDepth 100000 in
theorem wides_walk (a0 a1 b0 b1 x y z : Int) (h1 : Fx.R64 a0) (h2 : Fx.U64 a1) (h3 : Fx.R64 b0) (h4 : Fx.U64 b1) (hx : Fx.R64 x) (hy : Fx.R64 y) (hz : Fx.R64 z) (w : World) :
    Calls Try.prog 22 #[.agg #[.int .i64 a0, .int .u64 a1], .agg #[.int .i64 b0, .int .u64 b1], .agg #[.int .i64 x, .int .i64 y, .int .i64 z]] w fun e w' => e = .returned (.bool true) ∧ Below w.heap.size w w' := by
  obtain ⟨PA, p1⟩ : ∃ v, Fx.ovH (Fx.wd a0 a1 + Fx.wd b0 b1) = v := ⟨_, rfl⟩
  obtain ⟨PB, p2⟩ : ∃ v, Fx.ovL (Fx.wd a0 a1 + Fx.wd b0 b1) = v := ⟨_, rfl⟩
  obtain ⟨PE, p3⟩ : ∃ v, Fx.ovE (Fx.wd a0 a1 + Fx.wd b0 b1) = v := ⟨_, rfl⟩
  obtain ⟨MA, m1⟩ : ∃ v, Fx.ovH (Fx.wd a0 a1 - Fx.wd b0 b1) = v := ⟨_, rfl⟩
  obtain ⟨MB, m2⟩ : ∃ v, Fx.ovL (Fx.wd a0 a1 - Fx.wd b0 b1) = v := ⟨_, rfl⟩
  obtain ⟨ME, m3⟩ : ∃ v, Fx.ovE (Fx.wd a0 a1 - Fx.wd b0 b1) = v := ⟨_, rfl⟩
  obtain ⟨NV, n1⟩ : ∃ v, Fx.nwV (Fx.wd a0 a1) = v := ⟨_, rfl⟩
  obtain ⟨NE, n2⟩ : ∃ v, Fx.nwE (Fx.wd a0 a1) = v := ⟨_, rfl⟩
  obtain ⟨QA, q1⟩ : ∃ v, Fx.ovH (x * x + y * y + z * z) = v := ⟨_, rfl⟩
  obtain ⟨QB, q2⟩ : ∃ v, Fx.ovL (x * x + y * y + z * z) = v := ⟨_, rfl⟩
  obtain ⟨QE, q3⟩ : ∃ v, Fx.ovE (x * x + y * y + z * z) = v := ⟨_, rfl⟩
  obtain ⟨CV, c1⟩ : ∃ v, orV (sg a0 b0) (sg a1 b1) = v := ⟨_, rfl⟩
  obtain ⟨H, r1⟩ : ∃ v, x * y / 18446744073709551616 = v := ⟨_, rfl⟩
  obtain ⟨L, r2⟩ : ∃ v, x * y % 18446744073709551616 = v := ⟨_, rfl⟩
  have C1 := Lib.hid (fun w => Plus_w a0 a1 b0 b1 PA PB PE _ h1 h2 h3 h4 rfl p1 p2 p3 w)
  have C2 := Lib.hid (fun w => rPlus_w a0 a1 b0 b1 PA PB PE _ h1 h2 h3 h4 rfl p1 p2 p3 w)
  have C3 := Lib.hid (fun w => Minus_w a0 a1 b0 b1 MA MB ME _ h1 h2 h3 h4 rfl m1 m2 m3 w)
  have C4 := Lib.hid (fun w => rMinus_w a0 a1 b0 b1 MA MB ME _ h1 h2 h3 h4 rfl m1 m2 m3 w)
  have C5 := Lib.hid (fun w => Narrow_w a0 a1 _ NV NE h1 h2 rfl n1 n2 w)
  have C6 := Lib.hid (fun w => rNarrow_w a0 a1 _ NV NE h1 h2 rfl n1 n2 w)
  have C7 := Lib.hid (fun w => Norm_w x y z _ QA QB QE hx hy hz rfl q1 q2 q3 w)
  have C8 := Lib.hid (fun w => rNorm_w x y z _ QA QB QE hx hy hz rfl q1 q2 q3 w)
  have C9 := Lib.hid (fun w => Cmp_w a0 a1 b0 b1 CV c1 w)
  have C10 := Lib.hid (fun w => rCmp_w a0 a1 b0 b1 CV c1 w)
  have C11 := Lib.hid (fun w => prod_w x y H L hx hy r1 r2 w)
  have C12 := Lib.hid (fun w => rprod_w x y H L hx hy r1 r2 w)
  clear p1 p2 p3 m1 m2 m3 n1 n2 q1 q2 q3 c1 r1 r2 h1 h2 h3 h4 hx hy hz
  refine calls_g fun g => ?_
  go_enter Try.func22, Try.ntmps22
  go_wp2_with (with_reducible refine G.any_mark _ ?_; (try generalize Array.size (World.heap (G.w _)) = bk); (try dsimp only [List.set_cons_zero, List.set_cons_succ]); (try clear g); intro g)
  refine (C1.out _).mono ?_; rintro e w1 ⟨rfl, hb⟩; obtain ⟨g1, rfl⟩ := G.call_ex _ hb; clear hb; (try clear g); revert g1; intro g
  go_wp2_with (with_reducible refine G.any_mark _ ?_; (try generalize Array.size (World.heap (G.w _)) = bk); (try dsimp only [List.set_cons_zero, List.set_cons_succ]); (try clear g); intro g)
  refine (C2.out _).mono ?_; rintro e w1 ⟨rfl, hb⟩; obtain ⟨g1, rfl⟩ := G.call_ex _ hb; clear hb; (try clear g); revert g1; intro g
  go_wp2_with (with_reducible refine G.any_mark _ ?_; (try generalize Array.size (World.heap (G.w _)) = bk); (try dsimp only [List.set_cons_zero, List.set_cons_succ]); (try clear g); intro g)
  refine (C3.out _).mono ?_; rintro e w1 ⟨rfl, hb⟩; obtain ⟨g1, rfl⟩ := G.call_ex _ hb; clear hb; (try clear g); revert g1; intro g
  go_wp2_with (with_reducible refine G.any_mark _ ?_; (try generalize Array.size (World.heap (G.w _)) = bk); (try dsimp only [List.set_cons_zero, List.set_cons_succ]); (try clear g); intro g)
  refine (C4.out _).mono ?_; rintro e w1 ⟨rfl, hb⟩; obtain ⟨g1, rfl⟩ := G.call_ex _ hb; clear hb; (try clear g); revert g1; intro g
  go_wp2_with (with_reducible refine G.any_mark _ ?_; (try generalize Array.size (World.heap (G.w _)) = bk); (try dsimp only [List.set_cons_zero, List.set_cons_succ]); (try clear g); intro g)
  refine (C5.out _).mono ?_; rintro e w1 ⟨rfl, hb⟩; obtain ⟨g1, rfl⟩ := G.call_ex _ hb; clear hb; (try clear g); revert g1; intro g
  go_wp2_with (with_reducible refine G.any_mark _ ?_; (try generalize Array.size (World.heap (G.w _)) = bk); (try dsimp only [List.set_cons_zero, List.set_cons_succ]); (try clear g); intro g)
  refine (C6.out _).mono ?_; rintro e w1 ⟨rfl, hb⟩; obtain ⟨g1, rfl⟩ := G.call_ex _ hb; clear hb; (try clear g); revert g1; intro g
  go_wp2_with (with_reducible refine G.any_mark _ ?_; (try generalize Array.size (World.heap (G.w _)) = bk); (try dsimp only [List.set_cons_zero, List.set_cons_succ]); (try clear g); intro g)
  refine (C7.out _).mono ?_; rintro e w1 ⟨rfl, hb⟩; obtain ⟨g1, rfl⟩ := G.call_ex _ hb; clear hb; (try clear g); revert g1; intro g
  go_wp2_with (with_reducible refine G.any_mark _ ?_; (try generalize Array.size (World.heap (G.w _)) = bk); (try dsimp only [List.set_cons_zero, List.set_cons_succ]); (try clear g); intro g)
  refine (C8.out _).mono ?_; rintro e w1 ⟨rfl, hb⟩; obtain ⟨g1, rfl⟩ := G.call_ex _ hb; clear hb; (try clear g); revert g1; intro g
  go_wp2_with (with_reducible refine G.any_mark _ ?_; (try generalize Array.size (World.heap (G.w _)) = bk); (try dsimp only [List.set_cons_zero, List.set_cons_succ]); (try clear g); intro g)
  ((try simp only [G.drew_eq, G.drewN_eq]); (refine G.any_mark _ ?_; (try generalize Array.size (World.heap (G.w _)) = bk); (try dsimp only [List.set_cons_zero, List.set_cons_succ]); (try clear g); intro g))
  go_region_held3 (G.held g) (simp [G.held, HeldL, go_sem]) (first | (go_at_call 73; refine (lives1_any _).mono ?_; rintro e w1 ⟨rfl, hb⟩; obtain ⟨g1, rfl⟩ := G.call_ex _ hb; clear hb; (try clear g); revert g1; intro g) | (go_at_call 99; refine (C9.out _).mono ?_; rintro e w1 ⟨rfl, hb⟩; obtain ⟨g1, rfl⟩ := G.call_ex _ hb; clear hb; (try clear g); revert g1; intro g) | (go_at_call 105; refine (C10.out _).mono ?_; rintro e w1 ⟨rfl, hb⟩; obtain ⟨g1, rfl⟩ := G.call_ex _ hb; clear hb; (try clear g); revert g1; intro g) | (go_at_call 95; refine (C11.out _).mono ?_; rintro e w1 ⟨rfl, hb⟩; obtain ⟨g1, rfl⟩ := G.call_ex _ hb; clear hb; (try clear g); revert g1; intro g) | (go_at_call 56; refine (C12.out _).mono ?_; rintro e w1 ⟨rfl, hb⟩; obtain ⟨g1, rfl⟩ := G.call_ex _ hb; clear hb; (try clear g); revert g1; intro g))
  all_goals
    (try ((try simp only [G.drew_eq, G.drewN_eq]); (refine G.any_mark _ ?_; (try generalize Array.size (World.heap (G.w _)) = bk); (try dsimp only [List.set_cons_zero, List.set_cons_succ]); (try clear g); intro g)))
    go_wp2_with (with_reducible refine G.any_mark _ ?_; (try generalize Array.size (World.heap (G.w _)) = bk); (try dsimp only [List.set_cons_zero, List.set_cons_succ]); (try clear g); intro g)
    go_ret
    exact ⟨rfl, G.below _⟩
end Go.Proofs.Ytgehbebjgmeccaa
