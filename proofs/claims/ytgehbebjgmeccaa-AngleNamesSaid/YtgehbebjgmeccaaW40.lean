/- Contracts of functions of the program and of its reference, out of walks. Their conditions stand ahead of each. -/
import Derived.Test.YtgehbebjgmeccaaW28
import Derived.Deep.RegionHeld3
import Derived.Test.YtgehbebjgmeccaaGw
import Derived.Test.YtgehbebjgmeccaaP1
set_option linter.unusedVariables false
set_option linter.unusedSimpArgs false
namespace Go.Proofs.Ytgehbebjgmeccaa
open Go.RowKit GW
theorem Plus_any (a0 a1 b0 b1 : Int) (h1 : Fx.R64 a0) (h2 : Fx.U64 a1) (h3 : Fx.R64 b0) (h4 : Fx.U64 b1) (w : World) :
    Calls Try.prog 96 #[.agg #[.int .i64 a0, .int .u64 a1], .agg #[.int .i64 b0, .int .u64 b1]] w fun e w' =>
      e = .returned (.tuple #[.agg #[.int .i64 (Fx.ovH (Fx.wd a0 a1 + Fx.wd b0 b1)), .int .u64 (Fx.ovL (Fx.wd a0 a1 + Fx.wd b0 b1))], .int .i64 (Fx.ovE (Fx.wd a0 a1 + Fx.wd b0 b1))]) ∧ Below w.heap.size w w' := by
  have a := fun w => add64_0 a1 b1 h2.1 h4.1 w
  generalize hc : (a1 + b1) / 18446744073709551616 = c at a
  generalize hr : (a1 + b1) % 18446744073709551616 = r at a
  have A := Lib.hid a
  obtain ⟨p1, p2, p3, p4, p5⟩ := Fx.plus_plain a0 a1 b0 b1 c r _ h1 h2 h3 h4 hc.symm hr.symm rfl
  have ho := K.over_test a0 b0 _ h1 h3 p1
  rw [p4] at ho
  have P5 := Lib.hid p5
  generalize Fx.wd a0 a1 + Fx.wd b0 b1 = s at *
  by_cases hov : Fx.in128 s
  · have hT : ¬ bits .and .i64 (bits .xor .i64 a0 (wrap64 (wrap64 (a0 + b0) + c))) (bits .xor .i64 b0 (wrap64 (wrap64 (a0 + b0) + c))) < 0 := fun h => ho.1 h hov
    have HV := Lib.hid hov
    clear a hc hr p4 p5 ho p1 h1 h2 h3 h4 hov
    refine calls_g fun g => ?_
    go_enter Try.func96, Try.ntmps96
    go_wp2_with (first | (with_reducible refine G.any_mark _ ?_; (try generalize Array.size (World.heap (G.w _)) = bk); (try dsimp only [List.set_cons_zero, List.set_cons_succ]); (try clear g); intro g) | simp only [A.out])
    rw [(Fx.ov_yes HV.out).1, (Fx.ov_yes HV.out).2.1, (Fx.ov_yes HV.out).2.2, ← (P5.out HV.out).1, ← (P5.out HV.out).2]
    refine bodyPost_ret (v := .tuple #[.agg #[.int .i64 (wrap64 (wrap64 (a0 + b0) + c)), .int .u64 r], .int .i64 0]) (by simp [results, Try.results96, go_sem]) rfl ⟨rfl, G.below _⟩
  · have hT : bits .and .i64 (bits .xor .i64 a0 (wrap64 (wrap64 (a0 + b0) + c))) (bits .xor .i64 b0 (wrap64 (wrap64 (a0 + b0) + c))) < 0 := ho.2 hov
    have HV := Lib.hid hov
    clear a hc hr p4 p5 ho p1 h1 h2 h3 h4 hov
    refine calls_g fun g => ?_
    go_enter Try.func96, Try.ntmps96
    go_wp2_with (first | (with_reducible refine G.any_mark _ ?_; (try generalize Array.size (World.heap (G.w _)) = bk); (try dsimp only [List.set_cons_zero, List.set_cons_succ]); (try clear g); intro g) | simp only [A.out])
    rw [(Fx.ov_no HV.out).1, (Fx.ov_no HV.out).2.1, (Fx.ov_no HV.out).2.2]
    refine bodyPost_ret (v := .tuple #[.agg #[.int .i64 0, .int .u64 0], .int .i64 5]) (by simp [results, Try.results96, go_sem]) rfl ⟨rfl, G.below _⟩
end Go.Proofs.Ytgehbebjgmeccaa
