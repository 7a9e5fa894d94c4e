/- Contracts of functions of the program and of its reference, out of walks. Their conditions stand ahead of each. -/
import Derived.Test.YtgehbebjgmeccaaW40
set_option linter.unusedVariables false
set_option linter.unusedSimpArgs false
namespace Go.Proofs.Ytgehbebjgmeccaa
open Go.RowKit GW
def sub64Entry : Array Value → Sem Value := fun args => do
  let (x, y, b) ← Extern.MathBitsCarry.three "Sub64" args
  pure (Extern.MathBitsCarry.pair ((x + Extern.MathBitsCarry.m64 - y - b) % Extern.MathBitsCarry.m64) (if x < y + b then 1 else 0))
theorem run_sub64 {P : Program} (x y : Int) (hx : Fx.U64 x) (hy : Fx.U64 y) (w : World) :
    (sub64Entry #[.int .u64 x, .int .u64 y, .int .u64 0]).run P w = .ok (.tuple #[.int .u64 ((x - y) % 18446744073709551616), .int .u64 (if x < y then 1 else 0)]) w := by
  have key : (sub64Entry #[.int .u64 x, .int .u64 y, .int .u64 (0 : Int)]).run P w =
      .ok (Extern.MathBitsCarry.pair ((x.toNat + Extern.MathBitsCarry.m64 - y.toNat - 0) % Extern.MathBitsCarry.m64) (if x.toNat < y.toNat + 0 then 1 else 0)) w := rfl
  rw [key]
  unfold Fx.U64 at hx hy
  obtain ⟨X, rfl⟩ := Int.eq_ofNat_of_zero_le hx.1
  obtain ⟨Y, rfl⟩ := Int.eq_ofNat_of_zero_le hy.1
  simp only [Extern.MathBitsCarry.pair, Extern.MathBitsCarry.m64, Int.toNat_natCast, Nat.add_zero, Nat.sub_zero]
  congr 4
  · congr 1
    simp
    omega
  · congr 2
    by_cases h : X < Y
    · rw [if_pos h, if_pos (by omega)]; rfl
    · rw [if_neg h, if_neg (by omega)]; rfl
theorem sub64_0 (x y : Int) (hx : Fx.U64 x) (hy : Fx.U64 y) (w : World) : (callFunc 135 #[.int .u64 x, .int .u64 y, .int .u64 0]).run Try.prog w =
    .ok (.value (.tuple #[.int .u64 ((x - y) % 18446744073709551616), .int .u64 (if x < y then 1 else 0)])) w := by
  rw [run_callFunc_extern Try.func135 (by kernel_rfl) (by kernel_rfl) (by kernel_rfl) (e := sub64Entry) (by kernel_rfl), run_sub64 x y hx hy]
  rfl
theorem Minus_any (a0 a1 b0 b1 : Int) (h1 : Fx.R64 a0) (h2 : Fx.U64 a1) (h3 : Fx.R64 b0) (h4 : Fx.U64 b1) (w : World) :
    Calls Try.prog 97 #[.agg #[.int .i64 a0, .int .u64 a1], .agg #[.int .i64 b0, .int .u64 b1]] w fun e w' =>
      e = .returned (.tuple #[.agg #[.int .i64 (Fx.ovH (Fx.wd a0 a1 - Fx.wd b0 b1)), .int .u64 (Fx.ovL (Fx.wd a0 a1 - Fx.wd b0 b1))], .int .i64 (Fx.ovE (Fx.wd a0 a1 - Fx.wd b0 b1))]) ∧ Below w.heap.size w w' := by
  have a := fun w => sub64_0 a1 b1 h2 h4 w
  generalize hc : (if a1 < b1 then (1 : Int) else 0) = c at a
  generalize hr : (a1 - b1) % 18446744073709551616 = r at a
  have A := Lib.hid a
  obtain ⟨p1, p2, p3, p4, p5⟩ := Fx.minus_plain a0 a1 b0 b1 c r _ h1 h2 h3 h4 hc.symm hr.symm rfl
  have q1 := K.i64xor_neg a0 b0 h1 h3
  have q2 := K.i64xor_neg a0 _ h1 p1
  have ho := K.i64and_neg _ _ q1.2 q2.2
  rw [q1.1, q2.1, p4] at ho
  have P5 := Lib.hid p5
  generalize Fx.wd a0 a1 - Fx.wd b0 b1 = s at *
  by_cases hov : Fx.in128 s
  · have hT : ¬ bits .and .i64 (bits .xor .i64 a0 b0) (bits .xor .i64 a0 (wrap64 (wrap64 (a0 - b0) - c))) < 0 := fun h => ho.1 h hov
    have HV := Lib.hid hov
    clear a hc hr p4 p5 ho p1 h1 h2 h3 h4 hov q1 q2
    refine calls_g fun g => ?_
    go_enter Try.func97, Try.ntmps97
    go_wp2_with (first | (with_reducible refine G.any_mark _ ?_; (try generalize Array.size (World.heap (G.w _)) = bk); (try dsimp only [List.set_cons_zero, List.set_cons_succ]); (try clear g); intro g) | simp only [A.out])
    rw [(Fx.ov_yes HV.out).1, (Fx.ov_yes HV.out).2.1, (Fx.ov_yes HV.out).2.2, ← (P5.out HV.out).1, ← (P5.out HV.out).2]
    refine bodyPost_ret (v := .tuple #[.agg #[.int .i64 (wrap64 (wrap64 (a0 - b0) - c)), .int .u64 r], .int .i64 0]) (by simp [results, Try.results97, go_sem]) rfl ⟨rfl, G.below _⟩
  · have hT : bits .and .i64 (bits .xor .i64 a0 b0) (bits .xor .i64 a0 (wrap64 (wrap64 (a0 - b0) - c))) < 0 := ho.2 hov
    have HV := Lib.hid hov
    clear a hc hr p4 p5 ho p1 h1 h2 h3 h4 hov q1 q2
    refine calls_g fun g => ?_
    go_enter Try.func97, Try.ntmps97
    go_wp2_with (first | (with_reducible refine G.any_mark _ ?_; (try generalize Array.size (World.heap (G.w _)) = bk); (try dsimp only [List.set_cons_zero, List.set_cons_succ]); (try clear g); intro g) | simp only [A.out])
    rw [(Fx.ov_no HV.out).1, (Fx.ov_no HV.out).2.1, (Fx.ov_no HV.out).2.2]
    refine bodyPost_ret (v := .tuple #[.agg #[.int .i64 0, .int .u64 0], .int .i64 5]) (by simp [results, Try.results97, go_sem]) rfl ⟨rfl, G.below _⟩
set_option maxHeartbeats 4000000 in
theorem rPlus_any (a0 a1 b0 b1 : Int) (h1 : Fx.R64 a0) (h2 : Fx.U64 a1) (h3 : Fx.R64 b0) (h4 : Fx.U64 b1) (w : World) :
    Calls Try.prog 100 #[.agg #[.int .i64 a0, .int .u64 a1], .agg #[.int .i64 b0, .int .u64 b1]] w fun e w' =>
      e = .returned (.tuple #[.agg #[.int .i64 (Fx.ovH (Fx.wd a0 a1 + Fx.wd b0 b1)), .int .u64 (Fx.ovL (Fx.wd a0 a1 + Fx.wd b0 b1))], .int .i64 (Fx.ovE (Fx.wd a0 a1 + Fx.wd b0 b1))]) ∧ Below w.heap.size w w' := by
  have a := fun w => add64_0 a1 b1 h2.1 h4.1 w
  generalize hc : (a1 + b1) / 18446744073709551616 = c at a
  generalize hr : (a1 + b1) % 18446744073709551616 = r at a
  have A := Lib.hid a
  obtain ⟨p1, p2, p3, p4, p5⟩ := Fx.plus_plain a0 a1 b0 b1 c r _ h1 h2 h3 h4 hc.symm hr.symm rfl
  have P5 := Lib.hid p5
  have P4 := Lib.hid p4
  generalize Fx.wd a0 a1 + Fx.wd b0 b1 = s at *
  clear a hc hr p4 p5 p1 h1 h2 h3 h4
  by_cases t1 : a0 < 0 <;> by_cases t2 : b0 < 0 <;> by_cases t3 : wrap64 (wrap64 (a0 + b0) + c) < 0
  all_goals
    have HV := P4.out
    simp only [t1, t2, t3, iff_self, iff_true, iff_false, true_iff, false_iff, not_true_eq_false, not_false_eq_true, and_self, and_true, and_false, true_and, false_and, Classical.not_not] at HV
    have HW := Lib.hid HV
    clear HV P4
    refine calls_g fun g => ?_
    go_enter Try.func100, Try.ntmps100
    go_wp2_with (first | (with_reducible refine G.any_mark _ ?_; (try generalize Array.size (World.heap (G.w _)) = bk); (try dsimp only [List.set_cons_zero, List.set_cons_succ]); (try clear g); intro g) | simp only [A.out])
    first
      | (have hv : Fx.in128 s := HW.out
         rw [(Fx.ov_yes hv).1, (Fx.ov_yes hv).2.1, (Fx.ov_yes hv).2.2, ← (P5.out hv).1, ← (P5.out hv).2]
         refine bodyPost_ret (v := .tuple #[.agg #[.int .i64 (wrap64 (wrap64 (a0 + b0) + c)), .int .u64 r], .int .i64 0]) (by simp [results, Try.results100, go_sem]) rfl ⟨rfl, G.below _⟩)
      | (have hv : ¬ Fx.in128 s := HW.out
         rw [(Fx.ov_no hv).1, (Fx.ov_no hv).2.1, (Fx.ov_no hv).2.2]
         refine bodyPost_ret (v := .tuple #[.agg #[.int .i64 0, .int .u64 0], .int .i64 5]) (by simp [results, Try.results100, go_sem]) rfl ⟨rfl, G.below _⟩)
set_option maxHeartbeats 4000000 in
theorem rMinus_any (a0 a1 b0 b1 : Int) (h1 : Fx.R64 a0) (h2 : Fx.U64 a1) (h3 : Fx.R64 b0) (h4 : Fx.U64 b1) (w : World) :
    Calls Try.prog 101 #[.agg #[.int .i64 a0, .int .u64 a1], .agg #[.int .i64 b0, .int .u64 b1]] w fun e w' =>
      e = .returned (.tuple #[.agg #[.int .i64 (Fx.ovH (Fx.wd a0 a1 - Fx.wd b0 b1)), .int .u64 (Fx.ovL (Fx.wd a0 a1 - Fx.wd b0 b1))], .int .i64 (Fx.ovE (Fx.wd a0 a1 - Fx.wd b0 b1))]) ∧ Below w.heap.size w w' := by
  have a := fun w => sub64_0 a1 b1 h2 h4 w
  generalize hc : (if a1 < b1 then (1 : Int) else 0) = c at a
  generalize hr : (a1 - b1) % 18446744073709551616 = r at a
  have A := Lib.hid a
  obtain ⟨p1, p2, p3, p4, p5⟩ := Fx.minus_plain a0 a1 b0 b1 c r _ h1 h2 h3 h4 hc.symm hr.symm rfl
  have P5 := Lib.hid p5
  have P4 := Lib.hid p4
  generalize Fx.wd a0 a1 - Fx.wd b0 b1 = s at *
  clear a hc hr p4 p5 p1 h1 h2 h3 h4
  by_cases t1 : a0 < 0 <;> by_cases t2 : b0 < 0 <;> by_cases t3 : wrap64 (wrap64 (a0 - b0) - c) < 0
  all_goals
    have HV := P4.out
    simp only [t1, t2, t3, iff_self, iff_true, iff_false, true_iff, false_iff, not_true_eq_false, not_false_eq_true, and_self, and_true, and_false, true_and, false_and, Classical.not_not] at HV
    have HW := Lib.hid HV
    clear HV P4
    refine calls_g fun g => ?_
    go_enter Try.func101, Try.ntmps101
    go_wp2_with (first | (with_reducible refine G.any_mark _ ?_; (try generalize Array.size (World.heap (G.w _)) = bk); (try dsimp only [List.set_cons_zero, List.set_cons_succ]); (try clear g); intro g) | simp only [A.out])
    first
      | (have hv : Fx.in128 s := HW.out
         rw [(Fx.ov_yes hv).1, (Fx.ov_yes hv).2.1, (Fx.ov_yes hv).2.2, ← (P5.out hv).1, ← (P5.out hv).2]
         refine bodyPost_ret (v := .tuple #[.agg #[.int .i64 (wrap64 (wrap64 (a0 - b0) - c)), .int .u64 r], .int .i64 0]) (by simp [results, Try.results101, go_sem]) rfl ⟨rfl, G.below _⟩)
      | (have hv : ¬ Fx.in128 s := HW.out
         rw [(Fx.ov_no hv).1, (Fx.ov_no hv).2.1, (Fx.ov_no hv).2.2]
         refine bodyPost_ret (v := .tuple #[.agg #[.int .i64 0, .int .u64 0], .int .i64 5]) (by simp [results, Try.results101, go_sem]) rfl ⟨rfl, G.below _⟩)
end Go.Proofs.Ytgehbebjgmeccaa
