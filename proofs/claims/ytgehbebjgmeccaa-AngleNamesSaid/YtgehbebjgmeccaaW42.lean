/- Contracts of functions of the program and of its reference, out of walks. Their conditions stand ahead of each. -/
import Derived.Test.YtgehbebjgmeccaaW41
set_option linter.unusedVariables false
set_option linter.unusedSimpArgs false
namespace Go.Proofs.Ytgehbebjgmeccaa
open Go.RowKit GW
theorem Narrow_any (a b : Int) (h1 : Fx.R64 a) (h2 : Fx.U64 b) (w : World) :
    Calls Try.prog 98 #[.agg #[.int .i64 a, .int .u64 b]] w fun e w' =>
      e = .returned (.tuple #[.int .i64 (Fx.nwV (Fx.wd a b)), .int .i64 (Fx.nwE (Fx.wd a b))]) ∧ Below w.heap.size w w' := by
  obtain ⟨p1, p2, -⟩ := Fx.narrow_plain a b h1 h2
  by_cases hv : Fx.R64 (Fx.wd a b)
  · rw [(Fx.nw_yes hv).1, (Fx.nw_yes hv).2]
    have hT : (a == wrap64 b / 9223372036854775808) = true := by simpa using p1.2 hv
    have hT' : (a != wrap64 b / 9223372036854775808) = false := by simpa using p1.2 hv
    have P2 := Lib.hid (p2 hv)
    clear p1 p2 h1 h2 hv
    refine calls_g fun g => ?_
    go_enter Try.func98, Try.ntmps98
    go_wp2_with (with_reducible refine G.any_mark _ ?_; (try generalize Array.size (World.heap (G.w _)) = bk); (try dsimp only [List.set_cons_zero, List.set_cons_succ]); (try clear g); intro g)
    go_ret2
    exact ⟨by rw [P2.out]; rfl, G.below _⟩
  · rw [(Fx.nw_no hv).1, (Fx.nw_no hv).2]
    have hT : (a == wrap64 b / 9223372036854775808) = false := by simpa using fun h => hv (p1.1 h)
    have hT' : (a != wrap64 b / 9223372036854775808) = true := by simpa using fun h => hv (p1.1 h)
    clear p1 p2 h1 h2 hv
    refine calls_g fun g => ?_
    go_enter Try.func98, Try.ntmps98
    go_wp2_with (with_reducible refine G.any_mark _ ?_; (try generalize Array.size (World.heap (G.w _)) = bk); (try dsimp only [List.set_cons_zero, List.set_cons_succ]); (try clear g); intro g)
    go_ret2
    exact ⟨rfl, G.below _⟩
theorem rNarrow_any (a b : Int) (h1 : Fx.R64 a) (h2 : Fx.U64 b) (w : World) :
    Calls Try.prog 102 #[.agg #[.int .i64 a, .int .u64 b]] w fun e w' =>
      e = .returned (.tuple #[.int .i64 (Fx.nwV (Fx.wd a b)), .int .i64 (Fx.nwE (Fx.wd a b))]) ∧ Below w.heap.size w w' := by
  obtain ⟨-, p2, p1⟩ := Fx.narrow_plain a b h1 h2
  have P1 := Lib.hid p1
  have P2 := Lib.hid p2
  clear p1 p2 h1 h2
  by_cases t1 : a = 0
  · have t1' : (a == 0) = true := by simpa using t1
    have t2' : (a == -1) = false := by rw [t1]; rfl
    by_cases t3 : 0 ≤ wrap64 b
    · have t4 : ¬ wrap64 b < 0 := by omega
      have hv : Fx.R64 (Fx.wd a b) := P1.out.1 (.inl ⟨t1, t3⟩)
      rw [(Fx.nw_yes hv).1, (Fx.nw_yes hv).2]
      have HP := Lib.hid (P2.out hv)
      clear t1 hv P1 P2
      refine calls_g fun g => ?_
      go_enter Try.func102, Try.ntmps102
      go_wp2_with (with_reducible refine G.any_mark _ ?_; (try generalize Array.size (World.heap (G.w _)) = bk); (try dsimp only [List.set_cons_zero, List.set_cons_succ]); (try clear g); intro g)
      go_ret2
      exact ⟨by rw [HP.out]; rfl, G.below _⟩
    · have t4 : wrap64 b < 0 := by omega
      have hv : ¬ Fx.R64 (Fx.wd a b) := fun h => by have := P1.out.2 h; omega
      rw [(Fx.nw_no hv).1, (Fx.nw_no hv).2]
      clear t1 hv P1 P2
      refine calls_g fun g => ?_
      go_enter Try.func102, Try.ntmps102
      go_wp2_with (with_reducible refine G.any_mark _ ?_; (try generalize Array.size (World.heap (G.w _)) = bk); (try dsimp only [List.set_cons_zero, List.set_cons_succ]); (try clear g); intro g)
      go_ret2
      exact ⟨rfl, G.below _⟩
  · have t1' : (a == 0) = false := by simpa using t1
    by_cases t2 : a = -1
    · have t2' : (a == -1) = true := by simpa using t2
      by_cases t3 : 0 ≤ wrap64 b
      · have t4 : ¬ wrap64 b < 0 := by omega
        have hv : ¬ Fx.R64 (Fx.wd a b) := fun h => by have := P1.out.2 h; omega
        rw [(Fx.nw_no hv).1, (Fx.nw_no hv).2]
        clear t1 t2 hv P1 P2
        refine calls_g fun g => ?_
        go_enter Try.func102, Try.ntmps102
        go_wp2_with (with_reducible refine G.any_mark _ ?_; (try generalize Array.size (World.heap (G.w _)) = bk); (try dsimp only [List.set_cons_zero, List.set_cons_succ]); (try clear g); intro g)
        go_ret2
        exact ⟨rfl, G.below _⟩
      · have t4 : wrap64 b < 0 := by omega
        have hv : Fx.R64 (Fx.wd a b) := P1.out.1 (.inr ⟨t2, t4⟩)
        rw [(Fx.nw_yes hv).1, (Fx.nw_yes hv).2]
        have HP := Lib.hid (P2.out hv)
        clear t1 t2 hv P1 P2
        refine calls_g fun g => ?_
        go_enter Try.func102, Try.ntmps102
        go_wp2_with (with_reducible refine G.any_mark _ ?_; (try generalize Array.size (World.heap (G.w _)) = bk); (try dsimp only [List.set_cons_zero, List.set_cons_succ]); (try clear g); intro g)
        go_ret2
        exact ⟨by rw [HP.out]; rfl, G.below _⟩
    · have t2' : (a == -1) = false := by simpa using t2
      have hv : ¬ Fx.R64 (Fx.wd a b) := fun h => by have := P1.out.2 h; omega
      rw [(Fx.nw_no hv).1, (Fx.nw_no hv).2]
      clear t1 t2 hv P1 P2
      refine calls_g fun g => ?_
      go_enter Try.func102, Try.ntmps102
      go_wp2_with (with_reducible refine G.any_mark _ ?_; (try generalize Array.size (World.heap (G.w _)) = bk); (try dsimp only [List.set_cons_zero, List.set_cons_succ]); (try clear g); intro g)
      go_ret2
      exact ⟨rfl, G.below _⟩
theorem norm_all (x y z : Int) (hx : Fx.R64 x) (hy : Fx.R64 y) (hz : Fx.R64 z) : Fx.in128 (x * x) ∧ Fx.in128 (y * y) ∧ Fx.in128 (z * z) ∧ (Fx.in128 (x * x + y * y + z * z) → Fx.in128 (x * x + y * y)) := by
  have a := Fx.sq_in x hx
  have b := Fx.sq_in y hy
  have c := Fx.sq_in z hz
  unfold Fx.in128
  omega
end Go.Proofs.Ytgehbebjgmeccaa
