/- Plain facts and contracts of functions of the program, out of walks. Their conditions stand ahead of each. -/
import Derived.Test.YtodigegjngnknaaDe2
import Derived.Test.YtodigegjngnknaaDe6
import Derived.Test.YtodigegjngnknaaDe14
import Derived.Below
import Derived.BigQuiet
import Derived.Deep.Draws
import Derived.Deep.QuietTactic
import Derived.Deep.RegionHeld3
import Derived.Deep.WholeRow
import Derived.Great.BuildSlice
import Derived.Laws.Bits128
import Derived.Laws.BitsLemmas
import Derived.Laws.Externs
import Derived.Laws.NewBlocks
import Derived.Laws.OwnMore
import Derived.Laws.Pointers
import Derived.Laws.Rows
import Derived.Lib.Hide
import Derived.RowKit3
import Derived.StillTactics
import Derived.StillTailTactics
import Derived.Test.YtodigegjngnknaaProg
import Derived.WalkKit
import Derived.WalkLawsBesides
import Derived.WalkSpells
set_option linter.unusedVariables false
set_option linter.unusedSimpArgs false
namespace Go.Proofs.Ytodigegjngnknaa.X
open Go.RowKit GW
theorem Plus_any (a0 a1 b0 b1 : Int) (h1 : Fx.R64 a0) (h2 : Fx.U64 a1) (h3 : Fx.R64 b0) (h4 : Fx.U64 b1) (w : World) :
    Calls Try.prog 66 #[.agg #[.int .i64 a0, .int .u64 a1], .agg #[.int .i64 b0, .int .u64 b1]] w fun e w' =>
      e = .returned (.tuple #[.agg #[.int .i64 (Fx.ovH (Fx.wd a0 a1 + Fx.wd b0 b1)), .int .u64 (Fx.ovL (Fx.wd a0 a1 + Fx.wd b0 b1))], .int .i64 (Fx.ovE (Fx.wd a0 a1 + Fx.wd b0 b1))]) ∧ Below w.heap.size w w' := by
  have a := fun w => add64_0 a1 b1 h2.1 h4.1 w
  generalize hc : (a1 + b1) / 18446744073709551616 = c at a
  generalize hr : (a1 + b1) % 18446744073709551616 = r at a
  have A := Lib.hid a
  obtain ⟨p1, p2, p3, p4, p5⟩ := Fx.plus_plain a0 a1 b0 b1 c r _ h1 h2 h3 h4 hc.symm hr.symm rfl
  have ho := K.over_test a0 b0 _ h1 h3 p1
  rw [p4] at ho
  have P5 := Lib.hid p5
  generalize Fx.wd a0 a1 + Fx.wd b0 b1 = s at *
  by_cases hov : Fx.in128 s
  · have hT : ¬ bits .and .i64 (bits .xor .i64 a0 (wrap64 (wrap64 (a0 + b0) + c))) (bits .xor .i64 b0 (wrap64 (wrap64 (a0 + b0) + c))) < 0 := fun h => ho.1 h hov
    have HV := Lib.hid hov
    clear a hc hr p4 p5 ho p1 h1 h2 h3 h4 hov
    refine calls_g fun g => ?_
    go_enter Try.func66, Try.ntmps66
    go_wp2_with (first | (with_reducible refine G.any_mark _ ?_; (try generalize Array.size (World.heap (G.w _)) = bk); (try dsimp only [List.set_cons_zero, List.set_cons_succ]); (try clear g); intro g) | simp only [A.out])
    rw [(Fx.ov_yes HV.out).1, (Fx.ov_yes HV.out).2.1, (Fx.ov_yes HV.out).2.2, ← (P5.out HV.out).1, ← (P5.out HV.out).2]
    refine bodyPost_ret (v := .tuple #[.agg #[.int .i64 (wrap64 (wrap64 (a0 + b0) + c)), .int .u64 r], .int .i64 0]) (by simp [results, Try.results66, go_sem]) rfl ⟨rfl, G.below _⟩
  · have hT : bits .and .i64 (bits .xor .i64 a0 (wrap64 (wrap64 (a0 + b0) + c))) (bits .xor .i64 b0 (wrap64 (wrap64 (a0 + b0) + c))) < 0 := ho.2 hov
    have HV := Lib.hid hov
    clear a hc hr p4 p5 ho p1 h1 h2 h3 h4 hov
    refine calls_g fun g => ?_
    go_enter Try.func66, Try.ntmps66
    go_wp2_with (first | (with_reducible refine G.any_mark _ ?_; (try generalize Array.size (World.heap (G.w _)) = bk); (try dsimp only [List.set_cons_zero, List.set_cons_succ]); (try clear g); intro g) | simp only [A.out])
    rw [(Fx.ov_no HV.out).1, (Fx.ov_no HV.out).2.1, (Fx.ov_no HV.out).2.2]
    refine bodyPost_ret (v := .tuple #[.agg #[.int .i64 0, .int .u64 0], .int .i64 5]) (by simp [results, Try.results66, go_sem]) rfl ⟨rfl, G.below _⟩
end Go.Proofs.Ytodigegjngnknaa.X
namespace Go.Proofs.Ytodigegjngnknaa.X
open Go.RowKit GW
def sub64Entry : Array Value → Sem Value := fun args => do
  let (x, y, b) ← Extern.MathBitsCarry.three "Sub64" args
  pure (Extern.MathBitsCarry.pair ((x + Extern.MathBitsCarry.m64 - y - b) % Extern.MathBitsCarry.m64) (if x < y + b then 1 else 0))
theorem run_sub64 {P : Program} (x y : Int) (hx : Fx.U64 x) (hy : Fx.U64 y) (w : World) :
    (sub64Entry #[.int .u64 x, .int .u64 y, .int .u64 0]).run P w = .ok (.tuple #[.int .u64 ((x - y) % 18446744073709551616), .int .u64 (if x < y then 1 else 0)]) w := by
  have key : (sub64Entry #[.int .u64 x, .int .u64 y, .int .u64 (0 : Int)]).run P w =
      .ok (Extern.MathBitsCarry.pair ((x.toNat + Extern.MathBitsCarry.m64 - y.toNat - 0) % Extern.MathBitsCarry.m64) (if x.toNat < y.toNat + 0 then 1 else 0)) w := rfl
  rw [key]
  unfold Fx.U64 at hx hy
  obtain ⟨X, rfl⟩ := Int.eq_ofNat_of_zero_le hx.1
  obtain ⟨Y, rfl⟩ := Int.eq_ofNat_of_zero_le hy.1
  simp only [Extern.MathBitsCarry.pair, Extern.MathBitsCarry.m64, Int.toNat_natCast, Nat.add_zero, Nat.sub_zero]
  congr 4
  · congr 1
    simp
    omega
  · congr 2
    by_cases h : X < Y
    · rw [if_pos h, if_pos (by omega)]; rfl
    · rw [if_neg h, if_neg (by omega)]; rfl
theorem sub64_0 (x y : Int) (hx : Fx.U64 x) (hy : Fx.U64 y) (w : World) : (callFunc 41 #[.int .u64 x, .int .u64 y, .int .u64 0]).run Try.prog w =
    .ok (.value (.tuple #[.int .u64 ((x - y) % 18446744073709551616), .int .u64 (if x < y then 1 else 0)])) w := by
  rw [run_callFunc_extern Try.func41 (by kernel_rfl) (by kernel_rfl) (by kernel_rfl) (e := sub64Entry) (by kernel_rfl), run_sub64 x y hx hy]
  rfl
set_option maxHeartbeats 4000000 in
theorem rPlus_any (a0 a1 b0 b1 : Int) (h1 : Fx.R64 a0) (h2 : Fx.U64 a1) (h3 : Fx.R64 b0) (h4 : Fx.U64 b1) (w : World) :
    Calls Try.prog 38 #[.agg #[.int .i64 a0, .int .u64 a1], .agg #[.int .i64 b0, .int .u64 b1]] w fun e w' =>
      e = .returned (.tuple #[.agg #[.int .i64 (Fx.ovH (Fx.wd a0 a1 + Fx.wd b0 b1)), .int .u64 (Fx.ovL (Fx.wd a0 a1 + Fx.wd b0 b1))], .int .i64 (Fx.ovE (Fx.wd a0 a1 + Fx.wd b0 b1))]) ∧ Below w.heap.size w w' := by
  have a := fun w => add64_0 a1 b1 h2.1 h4.1 w
  generalize hc : (a1 + b1) / 18446744073709551616 = c at a
  generalize hr : (a1 + b1) % 18446744073709551616 = r at a
  have A := Lib.hid a
  obtain ⟨p1, p2, p3, p4, p5⟩ := Fx.plus_plain a0 a1 b0 b1 c r _ h1 h2 h3 h4 hc.symm hr.symm rfl
  have P5 := Lib.hid p5
  have P4 := Lib.hid p4
  generalize Fx.wd a0 a1 + Fx.wd b0 b1 = s at *
  clear a hc hr p4 p5 p1 h1 h2 h3 h4
  by_cases t1 : a0 < 0 <;> by_cases t2 : b0 < 0 <;> by_cases t3 : wrap64 (wrap64 (a0 + b0) + c) < 0
  all_goals
    have HV := P4.out
    simp only [t1, t2, t3, iff_self, iff_true, iff_false, true_iff, false_iff, not_true_eq_false, not_false_eq_true, and_self, and_true, and_false, true_and, false_and, Classical.not_not] at HV
    have HW := Lib.hid HV
    clear HV P4
    refine calls_g fun g => ?_
    go_enter Try.func38, Try.ntmps38
    go_wp2_with (first | (with_reducible refine G.any_mark _ ?_; (try generalize Array.size (World.heap (G.w _)) = bk); (try dsimp only [List.set_cons_zero, List.set_cons_succ]); (try clear g); intro g) | simp only [A.out])
    first
      | (have hv : Fx.in128 s := HW.out
         rw [(Fx.ov_yes hv).1, (Fx.ov_yes hv).2.1, (Fx.ov_yes hv).2.2, ← (P5.out hv).1, ← (P5.out hv).2]
         refine bodyPost_ret (v := .tuple #[.agg #[.int .i64 (wrap64 (wrap64 (a0 + b0) + c)), .int .u64 r], .int .i64 0]) (by simp [results, Try.results38, go_sem]) rfl ⟨rfl, G.below _⟩)
      | (have hv : ¬ Fx.in128 s := HW.out
         rw [(Fx.ov_no hv).1, (Fx.ov_no hv).2.1, (Fx.ov_no hv).2.2]
         refine bodyPost_ret (v := .tuple #[.agg #[.int .i64 0, .int .u64 0], .int .i64 5]) (by simp [results, Try.results38, go_sem]) rfl ⟨rfl, G.below _⟩)
set_option maxHeartbeats 4000000 in
theorem rMinus_any (a0 a1 b0 b1 : Int) (h1 : Fx.R64 a0) (h2 : Fx.U64 a1) (h3 : Fx.R64 b0) (h4 : Fx.U64 b1) (w : World) :
    Calls Try.prog 65 #[.agg #[.int .i64 a0, .int .u64 a1], .agg #[.int .i64 b0, .int .u64 b1]] w fun e w' =>
      e = .returned (.tuple #[.agg #[.int .i64 (Fx.ovH (Fx.wd a0 a1 - Fx.wd b0 b1)), .int .u64 (Fx.ovL (Fx.wd a0 a1 - Fx.wd b0 b1))], .int .i64 (Fx.ovE (Fx.wd a0 a1 - Fx.wd b0 b1))]) ∧ Below w.heap.size w w' := by
  have a := fun w => sub64_0 a1 b1 h2 h4 w
  generalize hc : (if a1 < b1 then (1 : Int) else 0) = c at a
  generalize hr : (a1 - b1) % 18446744073709551616 = r at a
  have A := Lib.hid a
  obtain ⟨p1, p2, p3, p4, p5⟩ := Fx.minus_plain a0 a1 b0 b1 c r _ h1 h2 h3 h4 hc.symm hr.symm rfl
  have P5 := Lib.hid p5
  have P4 := Lib.hid p4
  generalize Fx.wd a0 a1 - Fx.wd b0 b1 = s at *
  clear a hc hr p4 p5 p1 h1 h2 h3 h4
  by_cases t1 : a0 < 0 <;> by_cases t2 : b0 < 0 <;> by_cases t3 : wrap64 (wrap64 (a0 - b0) - c) < 0
  all_goals
    have HV := P4.out
    simp only [t1, t2, t3, iff_self, iff_true, iff_false, true_iff, false_iff, not_true_eq_false, not_false_eq_true, and_self, and_true, and_false, true_and, false_and, Classical.not_not] at HV
    have HW := Lib.hid HV
    clear HV P4
    refine calls_g fun g => ?_
    go_enter Try.func65, Try.ntmps65
    go_wp2_with (first | (with_reducible refine G.any_mark _ ?_; (try generalize Array.size (World.heap (G.w _)) = bk); (try dsimp only [List.set_cons_zero, List.set_cons_succ]); (try clear g); intro g) | simp only [A.out])
    first
      | (have hv : Fx.in128 s := HW.out
         rw [(Fx.ov_yes hv).1, (Fx.ov_yes hv).2.1, (Fx.ov_yes hv).2.2, ← (P5.out hv).1, ← (P5.out hv).2]
         refine bodyPost_ret (v := .tuple #[.agg #[.int .i64 (wrap64 (wrap64 (a0 - b0) - c)), .int .u64 r], .int .i64 0]) (by simp [results, Try.results65, go_sem]) rfl ⟨rfl, G.below _⟩)
      | (have hv : ¬ Fx.in128 s := HW.out
         rw [(Fx.ov_no hv).1, (Fx.ov_no hv).2.1, (Fx.ov_no hv).2.2]
         refine bodyPost_ret (v := .tuple #[.agg #[.int .i64 0, .int .u64 0], .int .i64 5]) (by simp [results, Try.results65, go_sem]) rfl ⟨rfl, G.below _⟩)
end Go.Proofs.Ytodigegjngnknaa.X
namespace Go.Proofs.Ytodigegjngnknaa.X
open Go.RowKit GW
theorem norm_all (x y z : Int) (hx : Fx.R64 x) (hy : Fx.R64 y) (hz : Fx.R64 z) : Fx.in128 (x * x) ∧ Fx.in128 (y * y) ∧ Fx.in128 (z * z) ∧ (Fx.in128 (x * x + y * y + z * z) → Fx.in128 (x * x + y * y)) := by
  have a := Fx.sq_in x hx
  have b := Fx.sq_in y hy
  have c := Fx.sq_in z hz
  unfold Fx.in128
  omega
end Go.Proofs.Ytodigegjngnknaa.X
namespace Go.Proofs.Ytodigegjngnknaa.X
open Go.RowKit GW
theorem prod_w (a b H L : Int) (ha : Fx.R64 a) (hb : Fx.R64 b) (hH : a * b / 18446744073709551616 = H) (hL : a * b % 18446744073709551616 = L) (w : World) :
    Calls Try.prog 67 #[.int .i64 a, .int .i64 b] w fun e w' => e = .returned (.agg #[.int .i64 H, .int .u64 L]) ∧ Below w.heap.size w w' := by
  subst hH; subst hL; exact prod_any a b ha hb w
theorem Plus_w (a0 a1 b0 b1 A B E s : Int) (h1 : Fx.R64 a0) (h2 : Fx.U64 a1) (h3 : Fx.R64 b0) (h4 : Fx.U64 b1) (hs : Fx.wd a0 a1 + Fx.wd b0 b1 = s) (hA : Fx.ovH s = A) (hB : Fx.ovL s = B) (hE : Fx.ovE s = E) (w : World) :
    Calls Try.prog 66 #[.agg #[.int .i64 a0, .int .u64 a1], .agg #[.int .i64 b0, .int .u64 b1]] w fun e w' =>
      e = .returned (.tuple #[.agg #[.int .i64 A, .int .u64 B], .int .i64 E]) ∧ Below w.heap.size w w' := by
  subst hA; subst hB; subst hE; subst hs; exact Plus_any a0 a1 b0 b1 h1 h2 h3 h4 w
def part (x y z : Int) : Nat → Int
  | 0 => 0
  | 1 => x * x
  | 2 => x * x + y * y
  | _ => x * x + y * y + z * z
def nth3 (x y z : Int) : Nat → Int
  | 0 => x
  | 1 => y
  | _ => z
theorem part_succ (x y z : Int) (n : Nat) (h : n < 3) : part x y z (n + 1) = part x y z n + nth3 x y z n * nth3 x y z n := by
  match n, h with
  | 0, _ => simp [part, nth3]
  | 1, _ => rfl
  | 2, _ => rfl
theorem part_up (x y z : Int) (hx : Fx.R64 x) (hy : Fx.R64 y) (hz : Fx.R64 z) (n : Nat) (h : n ≤ 3) (hn : ¬ Fx.in128 (part x y z n)) : ¬ Fx.in128 (part x y z 3) := by
  have a := Fx.sq_in x hx
  have b := Fx.sq_in y hy
  have c := Fx.sq_in z hz
  match n, h with
  | 0, _ => exact absurd (show Fx.in128 0 from ⟨by decide, by decide⟩) hn
  | 1, _ =>
    have hn' : ¬ Fx.in128 (x * x) := hn
    show ¬ Fx.in128 (x * x + y * y + z * z)
    unfold Fx.in128 at *; omega
  | 2, _ =>
    have hn' : ¬ Fx.in128 (x * x + y * y) := hn
    show ¬ Fx.in128 (x * x + y * y + z * z)
    unfold Fx.in128 at *; omega
  | 3, _ => exact hn
theorem nth3_r (x y z : Int) (hx : Fx.R64 x) (hy : Fx.R64 y) (hz : Fx.R64 z) (n : Nat) : Fx.R64 (nth3 x y z n) := by
  match n with
  | 0 => exact hx
  | 1 => exact hy
  | n + 2 => exact hz
set_option maxHeartbeats 4000000 in
set_option maxRecDepth 100000 in
theorem Norm_any (x y z : Int) (hx : Fx.R64 x) (hy : Fx.R64 y) (hz : Fx.R64 z) (w : World) :
    Calls Try.prog 35 #[.agg #[.int .i64 x, .int .i64 y, .int .i64 z]] w fun e w' =>
      e = .returned (.tuple #[.agg #[.int .i64 (Fx.ovH (x * x + y * y + z * z)), .int .u64 (Fx.ovL (x * x + y * y + z * z))], .int .i64 (Fx.ovE (x * x + y * y + z * z))]) ∧ Below w.heap.size w w' := by
  have HP := Lib.hid (part_up x y z hx hy hz)
  have HN := Lib.hid (nth3_r x y z hx hy hz)
  have HS := Lib.hid (part_succ x y z)
  rw [show x * x + y * y + z * z = part x y z 3 from rfl]
  clear hx hy hz
  refine calls_g fun g => ?_
  go_enter Try.func35, Try.ntmps35
  go_wp2_with (with_reducible refine G.any_mark _ ?_; (try generalize Array.size (World.heap (G.w _)) = bk); (try dsimp only [List.set_cons_zero, List.set_cons_succ]); (try clear g); intro g)
  rename_i b1 b2 b4 K hK
  generalize hl : [Value.int .i64 x, Value.int .i64 y, Value.int .i64 z] = l at g
  have HLL := Lib.hid hl
  clear hl
  go_loopw [18] (fun k wr => ∃ n : Nat, n ≤ 3 ∧ k = .int .i64 n ∧ ∃ (A B : Int) (g : G w [] [(bk, 3, l), (b4, 31, [.int .i64 A, .int .u64 B]), (b2, 31, [.int .i64 0, .int .u64 0]), (b1, 23, l)] []), wr = g.w ∧ Fx.R64 A ∧ Fx.U64 B ∧ Fx.wd A B = part x y z n) (fun k _ => 3 - (intOf k).toNat)
  case atStart => exact ⟨0, by omega, rfl, 0, 0, g, rfl, by unfold Fx.R64; omega, by unfold Fx.U64; omega, rfl⟩
  case round =>
    obtain ⟨n, hn, rfl, A, B, g', rfl, hA, hB, hAB⟩ := hrel
    clear g
    revert g'
    intro g
    by_cases hlt : n < 3
    · have hc : l[n]? = some (.int .i64 (nth3 x y z n)) := by
        rw [← HLL.out]
        match n, hlt with
        | 0, _ => rfl
        | 1, _ => rfl
        | 2, _ => rfl
      have hr := HN.out n
      have hin2 := Fx.sq_in _ hr
      have hs := HS.out n hlt
      rw [← hAB] at hs
      have H2 := Lib.hid hin2
      have HR := Lib.hid hr
      have HA := Lib.hid hA
      have HB := Lib.hid hB
      have HS1 := Lib.hid hs
      have n0 : (0 : Int) ≤ n := by omega
      have n3 : (n : Int) < 3 := by omega
      have wn : IntKind.i64.wrap ((n : Int) + 1) = (n : Int) + 1 := IntWalk.i64_in _ (by omega)
      clear hr hin2 hA hB hAB hs
      generalize hp : nth3 x y z n = p at *
      clear hp
      have hsq : Fx.in128 (p * p) := by have := H2.out; unfold Fx.in128; omega
      have HRD := Lib.hid (Fx.dm_rng hsq)
      have HWD := Lib.hid (Fx.wd_dm (p * p))
      generalize hH : p * p / 18446744073709551616 = H at *
      generalize hL : p * p % 18446744073709551616 = L at *
      generalize hA' : Fx.ovH (Fx.wd A B + p * p) = A' at *
      generalize hB' : Fx.ovL (Fx.wd A B + p * p) = B' at *
      have HH := Lib.hid hH
      have HL := Lib.hid hL
      have HA' := Lib.hid hA'
      have HB' := Lib.hid hB'
      clear hH hL hA' hB' hsq
      by_cases hin : Fx.in128 (Fx.wd A B + p * p)
      · have OV := Lib.hid (Fx.ov_w hin)
        rw [HA'.out, HB'.out] at OV
        clear hin
        go_wp2_with (with_reducible refine G.any_mark _ ?_; (try generalize Array.size (World.heap (G.w _)) = bk); (try dsimp only [List.set_cons_zero, List.set_cons_succ]); (try clear g); intro g)
        clear hc
        go_region_held3 (G.held g) (simp [G.held, HeldL, go_sem]) (first | (go_at_call 67; refine (prod_w p p H L HR.out HR.out HH.out HL.out _).mono ?_; rintro e w1 ⟨rfl, hb⟩; obtain ⟨g1, rfl⟩ := G.call_ex _ hb; clear hb; (try clear g); revert g1; intro g) | (go_at_call 66; refine (Plus_w A B H L A' B' 0 _ HA.out HB.out HRD.out.1 HRD.out.2 (by rw [HWD.out]) HA'.out HB'.out OV.out.2.2.2 _).mono ?_; rintro e w1 ⟨rfl, hb⟩; obtain ⟨g1, rfl⟩ := G.call_ex _ hb; clear hb; (try clear g); revert g1; intro g))
        all_goals
          go_wp2_with (with_reducible refine G.any_mark _ ?_; (try generalize Array.size (World.heap (G.w _)) = bk); (try dsimp only [List.set_cons_zero, List.set_cons_succ]); (try clear g); intro g)
          exact ⟨⟨n + 1, by omega, by go_num, A', B', G.less_ex _ (.cons _ (.refl _)) ⟨OV.out.1, OV.out.2.1, by rw [OV.out.2.2.1, HS1.out]⟩⟩, by simp [intOf]; omega⟩
      · have OV := Lib.hid (Fx.ov_no hin)
        rw [HA'.out, HB'.out] at OV
        rw [← HS1.out] at hin
        have HV := Lib.hid (Fx.ov_no (HP.out (n + 1) (by omega) hin))
        clear hin
        go_wp2_with (with_reducible refine G.any_mark _ ?_; (try generalize Array.size (World.heap (G.w _)) = bk); (try dsimp only [List.set_cons_zero, List.set_cons_succ]); (try clear g); intro g)
        clear hc
        go_region_held3 (G.held g) (simp [G.held, HeldL, go_sem]) (first | (go_at_call 67; refine (prod_w p p H L HR.out HR.out HH.out HL.out _).mono ?_; rintro e w1 ⟨rfl, hb⟩; obtain ⟨g1, rfl⟩ := G.call_ex _ hb; clear hb; (try clear g); revert g1; intro g) | (go_at_call 66; refine (Plus_w A B H L A' B' 5 _ HA.out HB.out HRD.out.1 HRD.out.2 (by rw [HWD.out]) HA'.out HB'.out OV.out.1 _).mono ?_; rintro e w1 ⟨rfl, hb⟩; obtain ⟨g1, rfl⟩ := G.call_ex _ hb; clear hb; (try clear g); revert g1; intro g))
        all_goals
          go_wp2_with (with_reducible refine G.any_mark _ ?_; (try generalize Array.size (World.heap (G.w _)) = bk); (try dsimp only [List.set_cons_zero, List.set_cons_succ]); (try clear g); intro g)
          rw [HV.out.1, HV.out.2.1, HV.out.2.2]
          refine bodyPost_ret (v := .tuple #[.agg #[.int .i64 0, .int .u64 0], .int .i64 5]) (by simp [results, Try.results35, go_sem]) rfl ⟨rfl, G.below _⟩
    · have : n = 3 := by omega
      subst this
      have e1 := Fx.ov_of hA hB
      rw [hAB] at e1
      have E1 := Lib.hid e1
      clear hA hB hAB hlt hn e1
      go_wp2_with (with_reducible refine G.any_mark _ ?_; (try generalize Array.size (World.heap (G.w _)) = bk); (try dsimp only [List.set_cons_zero, List.set_cons_succ]); (try clear g); intro g)
      rw [E1.out.2.1, E1.out.2.2.1, E1.out.2.2.2]
      refine bodyPost_ret (v := .tuple #[.agg #[.int .i64 A, .int .u64 B], .int .i64 0]) (by simp [results, Try.results35, go_sem]) rfl ⟨rfl, G.below _⟩
end Go.Proofs.Ytodigegjngnknaa.X
namespace Go.Proofs.Ytodigegjngnknaa.X
open Go.RowKit GW
theorem run_sub64b {P : Program} (x y b : Int) (hx : Fx.U64 x) (hy : Fx.U64 y) (b0 : 0 ≤ b) (b1 : b ≤ 1) (w : World) :
    (sub64Entry #[.int .u64 x, .int .u64 y, .int .u64 b]).run P w = .ok (.tuple #[.int .u64 ((x - y - b) % 18446744073709551616), .int .u64 (if x < y + b then 1 else 0)]) w := by
  have key : ∀ k : Nat, k ≤ 1 → (sub64Entry #[.int .u64 x, .int .u64 y, .int .u64 (k : Int)]).run P w =
      .ok (Extern.MathBitsCarry.pair ((x.toNat + Extern.MathBitsCarry.m64 - y.toNat - k) % Extern.MathBitsCarry.m64) (if x.toNat < y.toNat + k then 1 else 0)) w := by
    intro k hk
    have : k = 0 ∨ k = 1 := by omega
    rcases this with rfl | rfl <;> rfl
  obtain ⟨k, rfl⟩ := Int.eq_ofNat_of_zero_le b0
  rw [key k (by omega)]
  unfold Fx.U64 at hx hy
  obtain ⟨X, rfl⟩ := Int.eq_ofNat_of_zero_le hx.1
  obtain ⟨Y, rfl⟩ := Int.eq_ofNat_of_zero_le hy.1
  simp only [Extern.MathBitsCarry.pair, Extern.MathBitsCarry.m64, Int.toNat_natCast]
  congr 4
  · congr 1
    simp
    omega
  · congr 2
    by_cases h : X < Y + k
    · rw [if_pos h, if_pos (by omega)]; rfl
    · rw [if_neg h, if_neg (by omega)]; rfl
theorem sub64_b (x y b : Int) (hx : Fx.U64 x) (hy : Fx.U64 y) (b0 : 0 ≤ b) (b1 : b ≤ 1) (w : World) : (callFunc 41 #[.int .u64 x, .int .u64 y, .int .u64 b]).run Try.prog w =
    .ok (.value (.tuple #[.int .u64 ((x - y - b) % 18446744073709551616), .int .u64 (if x < y + b then 1 else 0)])) w := by
  rw [run_callFunc_extern Try.func41 (by kernel_rfl) (by kernel_rfl) (by kernel_rfl) (e := sub64Entry) (by kernel_rfl), run_sub64b x y b hx hy b0 b1]
  rfl
theorem rneg_plain (p H L c M N : Int) (h0 : 0 ≤ -p) (h1 : -p ≤ 85070591730234615865843651857942052864) (hH : -p / 18446744073709551616 = H) (hL : -p % 18446744073709551616 = L) (hc : (if 0 < L then (1 : Int) else 0) = c)
    (hM : (0 - L) % 18446744073709551616 = M) (hN : (0 - H - c) % 18446744073709551616 = N) : 0 ≤ c ∧ c ≤ 1 ∧ Fx.U64 H ∧ Fx.U64 L ∧ wrap64 N = p / 18446744073709551616 ∧ M = p % 18446744073709551616 := by
  unfold Fx.U64 wrap64
  split at hc <;> omega
theorem rpos_plain (p H L : Int) (h0 : 0 ≤ p) (h1 : p ≤ 85070591730234615865843651857942052864) (hH : p / 18446744073709551616 = H) (hL : p % 18446744073709551616 = L) : wrap64 H = H ∧ 0 ≤ H ∧ H < 9223372036854775808 := by
  unfold wrap64; omega
set_option maxHeartbeats 1000000 in
theorem rProd_any (a b : Int) (ha : Fx.R64 a) (hb : Fx.R64 b) (w : World) :
    Calls Try.prog 15 #[.int .i64 a, .int .i64 b] w fun e w' => e = .returned (.agg #[.int .i64 (a * b / 18446744073709551616), .int .u64 (a * b % 18446744073709551616)]) ∧ Below w.heap.size w w' := by
  obtain ⟨P1, P2, p0, p1⟩ := prod_plain a b ha hb
  have A := az_bd a ha.1 ha.2
  have B := az_bd b hb.1 hb.2
  have AZ := Lib.hid A
  have BZ := Lib.hid B
  have HA := Lib.hid ha
  have HB := Lib.hid hb
  clear A B ha hb
  by_cases hs : (a < 0 ↔ b < 0)
  · obtain ⟨e, q0⟩ := P2 hs
    rw [e] at p1
    obtain ⟨w1, w2, w3⟩ := rpos_plain (a * b) _ _ q0 p1 rfl rfl
    have E := Lib.hid e
    have hT : (decide (a < 0) == decide (b < 0)) = true := by simp [hs]
    have hT' : (decide (a < 0) != decide (b < 0)) = false := by simp [hs]
    generalize hH : a * b / 18446744073709551616 = H at *
    generalize hL : a * b % 18446744073709551616 = L at *
    have HH := Lib.hid hH
    have HL := Lib.hid hL
    clear hH hL P1 P2 p0 p1 hs e q0
    refine calls_g fun g => ?_
    go_enter Try.func15, Try.ntmps15
    go_wp2_with (with_reducible refine G.any_mark _ ?_; (try generalize Array.size (World.heap (G.w _)) = bk); (try dsimp only [List.set_cons_zero, List.set_cons_succ]); (try clear g); intro g)
    refine (rsize_any a HA.out.1 HA.out.2 _).mono ?_
    rintro e w1 ⟨rfl, rfl⟩
    go_wp2_with (with_reducible refine G.any_mark _ ?_; (try generalize Array.size (World.heap (G.w _)) = bk); (try dsimp only [List.set_cons_zero, List.set_cons_succ]); (try clear g); intro g)
    refine (rsize_any b HB.out.1 HB.out.2 _).mono ?_
    rintro e w1 ⟨rfl, rfl⟩
    go_wp2_with (with_reducible refine G.any_mark _ ?_; (try generalize Array.size (World.heap (G.w _)) = bk); (try dsimp only [List.set_cons_zero, List.set_cons_succ]); (try clear g); intro g)
    refine (mul64_any _ _ ⟨AZ.out.1, by have := AZ.out.2; omega⟩ ⟨BZ.out.1, by have := BZ.out.2; omega⟩ _).mono ?_
    rw [E.out, HH.out, HL.out]
    rintro e w1 ⟨rfl, rfl⟩
    go_wp2_with (with_reducible refine G.any_mark _ ?_; (try generalize Array.size (World.heap (G.w _)) = bk); (try dsimp only [List.set_cons_zero, List.set_cons_succ]); (try clear g); intro g)
    refine bodyPost_ret (v := .agg #[.int .i64 H, .int .u64 L]) (by simp [results, Try.results15, go_sem]) rfl ⟨rfl, G.below _⟩
  · obtain ⟨e, q0⟩ := P1 hs
    rw [e] at p1
    obtain ⟨w1, w2, w3, w4, w5, w6⟩ := rneg_plain (a * b) _ _ _ _ _ q0 p1 rfl rfl rfl rfl rfl
    have E := Lib.hid e
    have hT : (decide (a < 0) == decide (b < 0)) = false := by simp [hs]
    have hT' : (decide (a < 0) != decide (b < 0)) = true := by simp [hs]
    rw [← w5, ← w6]
    generalize hH : -(a * b) / 18446744073709551616 = H at *
    generalize hL : -(a * b) % 18446744073709551616 = L at *
    have s1 := fun w => sub64_b 0 L 0 (by unfold Fx.U64; omega) w4 (Int.le_refl 0) (by omega) w
    simp only [Int.sub_zero, Int.add_zero] at s1
    generalize hc : (if 0 < L then (1 : Int) else 0) = c at *
    have s2 := fun w => sub64_b 0 H c (by unfold Fx.U64; omega) w3 w1 w2 w
    generalize (if 0 < H + c then (1 : Int) else 0) = c2 at s2
    generalize (0 - L) % 18446744073709551616 = M at *
    generalize (0 - H - c) % 18446744073709551616 = N at *
    have HH := Lib.hid hH
    have HL := Lib.hid hL
    have S1 := Lib.hid s1
    have S2 := Lib.hid s2
    clear hH hL P1 P2 p0 p1 hs e q0 s1 s2 w1 w2 w3 w4 w5 w6 hc
    refine calls_g fun g => ?_
    go_enter Try.func15, Try.ntmps15
    go_wp2_with (with_reducible refine G.any_mark _ ?_; (try generalize Array.size (World.heap (G.w _)) = bk); (try dsimp only [List.set_cons_zero, List.set_cons_succ]); (try clear g); intro g)
    refine (rsize_any a HA.out.1 HA.out.2 _).mono ?_
    rintro e w1 ⟨rfl, rfl⟩
    go_wp2_with (with_reducible refine G.any_mark _ ?_; (try generalize Array.size (World.heap (G.w _)) = bk); (try dsimp only [List.set_cons_zero, List.set_cons_succ]); (try clear g); intro g)
    refine (rsize_any b HB.out.1 HB.out.2 _).mono ?_
    rintro e w1 ⟨rfl, rfl⟩
    go_wp2_with (with_reducible refine G.any_mark _ ?_; (try generalize Array.size (World.heap (G.w _)) = bk); (try dsimp only [List.set_cons_zero, List.set_cons_succ]); (try clear g); intro g)
    refine (mul64_any _ _ ⟨AZ.out.1, by have := AZ.out.2; omega⟩ ⟨BZ.out.1, by have := BZ.out.2; omega⟩ _).mono ?_
    rw [E.out, HH.out, HL.out]
    rintro e w1 ⟨rfl, rfl⟩
    go_wp2_with (first | (with_reducible refine G.any_mark _ ?_; (try generalize Array.size (World.heap (G.w _)) = bk); (try dsimp only [List.set_cons_zero, List.set_cons_succ]); (try clear g); intro g) | simp only [S1.out, S2.out])
    refine bodyPost_ret (v := .agg #[.int .i64 (wrap64 N), .int .u64 M]) (by simp [results, Try.results15, go_sem]) rfl ⟨rfl, G.below _⟩
theorem rprod_w (a b H L : Int) (ha : Fx.R64 a) (hb : Fx.R64 b) (hH : a * b / 18446744073709551616 = H) (hL : a * b % 18446744073709551616 = L) (w : World) :
    Calls Try.prog 15 #[.int .i64 a, .int .i64 b] w fun e w' => e = .returned (.agg #[.int .i64 H, .int .u64 L]) ∧ Below w.heap.size w w' := by
  subst hH; subst hL; exact rProd_any a b ha hb w
theorem rPlus_w (a0 a1 b0 b1 A B E s : Int) (h1 : Fx.R64 a0) (h2 : Fx.U64 a1) (h3 : Fx.R64 b0) (h4 : Fx.U64 b1) (hs : Fx.wd a0 a1 + Fx.wd b0 b1 = s) (hA : Fx.ovH s = A) (hB : Fx.ovL s = B) (hE : Fx.ovE s = E) (w : World) :
    Calls Try.prog 38 #[.agg #[.int .i64 a0, .int .u64 a1], .agg #[.int .i64 b0, .int .u64 b1]] w fun e w' =>
      e = .returned (.tuple #[.agg #[.int .i64 A, .int .u64 B], .int .i64 E]) ∧ Below w.heap.size w w' := by
  subst hA; subst hB; subst hE; subst hs; exact rPlus_any a0 a1 b0 b1 h1 h2 h3 h4 w
set_option maxHeartbeats 4000000 in
theorem rNorm_any (x y z : Int) (hx : Fx.R64 x) (hy : Fx.R64 y) (hz : Fx.R64 z) (w : World) :
    Calls Try.prog 13 #[.agg #[.int .i64 x, .int .i64 y, .int .i64 z]] w fun e w' =>
      e = .returned (.tuple #[.agg #[.int .i64 (Fx.ovH (x * x + y * y + z * z)), .int .u64 (Fx.ovL (x * x + y * y + z * z))], .int .i64 (Fx.ovE (x * x + y * y + z * z))]) ∧ Below w.heap.size w w' := by
  have up := part_up x y z hx hy hz 2 (by omega)
  rw [show part x y z 2 = x * x + y * y from rfl, show part x y z 3 = x * x + y * y + z * z from rfl] at up
  obtain ⟨a1, a2, a3, -⟩ := norm_all x y z hx hy hz
  have R1 := Lib.hid (Fx.dm_rng a1)
  have R2 := Lib.hid (Fx.dm_rng a2)
  have R3 := Lib.hid (Fx.dm_rng a3)
  have D1 := Lib.hid (Fx.wd_dm (x * x))
  have D2 := Lib.hid (Fx.wd_dm (y * y))
  have D3 := Lib.hid (Fx.wd_dm (z * z))
  have HX := Lib.hid hx
  have HY := Lib.hid hy
  have HZ := Lib.hid hz
  have UP := Lib.hid up
  generalize h1 : x * x / 18446744073709551616 = H1 at *
  generalize k1 : x * x % 18446744073709551616 = L1 at *
  generalize h2 : y * y / 18446744073709551616 = H2 at *
  generalize k2 : y * y % 18446744073709551616 = L2 at *
  generalize h3 : z * z / 18446744073709551616 = H3 at *
  generalize k3 : z * z % 18446744073709551616 = L3 at *
  have E1 := Lib.hid h1
  have F1 := Lib.hid k1
  have E2 := Lib.hid h2
  have F2 := Lib.hid k2
  have E3 := Lib.hid h3
  have F3 := Lib.hid k3
  clear h1 k1 h2 k2 h3 k3 hx hy hz a1 a2 a3 up
  generalize hA : Fx.ovH (x * x + y * y) = A at *
  generalize hB : Fx.ovL (x * x + y * y) = B at *
  have HA := Lib.hid hA
  have HB := Lib.hid hB
  clear hA hB
  by_cases hin : Fx.in128 (x * x + y * y)
  · have ov := Fx.ov_w hin
    rw [HA.out, HB.out] at ov
    have OV := Lib.hid ov
    clear hin ov UP
    generalize hA' : Fx.ovH (x * x + y * y + z * z) = A' at *
    generalize hB' : Fx.ovL (x * x + y * y + z * z) = B' at *
    generalize hE' : Fx.ovE (x * x + y * y + z * z) = E' at *
    have HA' := Lib.hid hA'
    have HB' := Lib.hid hB'
    have HE' := Lib.hid hE'
    clear hA' hB' hE'
    refine calls_g fun g => ?_
    go_enter Try.func13, Try.ntmps13
    go_wp2_with (with_reducible refine G.any_mark _ ?_; (try generalize Array.size (World.heap (G.w _)) = bk); (try dsimp only [List.set_cons_zero, List.set_cons_succ]); (try clear g); intro g)
    go_region_held3 (G.held g) (simp [G.held, HeldL, go_sem]) (first | (go_at_call 15; (first | (with_reducible refine (rprod_w x x H1 L1 HX.out HX.out E1.out F1.out _).mono ?_) | (with_reducible refine (rprod_w y y H2 L2 HY.out HY.out E2.out F2.out _).mono ?_)); rintro e w1 ⟨rfl, hb⟩; obtain ⟨g1, rfl⟩ := G.call_ex _ hb; clear hb; (try clear g); revert g1; intro g) | (go_at_call 38; refine (rPlus_w H1 L1 H2 L2 A B 0 _ R1.out.1 R1.out.2 R2.out.1 R2.out.2 (by rw [D1.out, D2.out]) HA.out HB.out OV.out.2.2.2 _).mono ?_; rintro e w1 ⟨rfl, hb⟩; obtain ⟨g1, rfl⟩ := G.call_ex _ hb; clear hb; (try clear g); revert g1; intro g))
    all_goals
      ((try simp only [G.drew_eq, G.drewN_eq]); (refine G.any_mark _ ?_; (try generalize Array.size (World.heap (G.w _)) = bk); (try dsimp only [List.set_cons_zero, List.set_cons_succ]); (try clear g); intro g))
      go_wp2_with (with_reducible refine G.any_mark _ ?_; (try generalize Array.size (World.heap (G.w _)) = bk); (try dsimp only [List.set_cons_zero, List.set_cons_succ]); (try clear g); intro g)
      go_region_held3 (G.heldN g [true, false, true]) (simp [G.heldN, HeldN, go_sem]) (first | (go_at_call 15; refine (rprod_w z z H3 L3 HZ.out HZ.out E3.out F3.out _).mono ?_; rintro e w1 ⟨rfl, hb⟩; obtain ⟨g1, rfl⟩ := G.call_ex _ hb; clear hb; (try clear g); revert g1; intro g) | (go_at_call 38; refine (rPlus_w A B H3 L3 A' B' E' _ OV.out.1 OV.out.2.1 R3.out.1 R3.out.2 (by rw [OV.out.2.2.1, D3.out]) HA'.out HB'.out HE'.out _).mono ?_; rintro e w1 ⟨rfl, hb⟩; obtain ⟨g1, rfl⟩ := G.call_ex _ hb; clear hb; (try clear g); revert g1; intro g))
      all_goals
        go_wp2_with (with_reducible refine G.any_mark _ ?_; (try generalize Array.size (World.heap (G.w _)) = bk); (try dsimp only [List.set_cons_zero, List.set_cons_succ]); (try clear g); intro g)
        refine bodyPost_ret (v := .tuple #[.agg #[.int .i64 A', .int .u64 B'], .int .i64 E']) (by simp [results, Try.results13, go_sem]) rfl ⟨rfl, G.below _⟩
  · have ov := Fx.ov_no hin
    rw [HA.out, HB.out] at ov
    have OV := Lib.hid ov
    have ov2 := Fx.ov_no (UP.out hin)
    rw [ov2.1, ov2.2.1, ov2.2.2]
    clear hin ov UP ov2
    refine calls_g fun g => ?_
    go_enter Try.func13, Try.ntmps13
    go_wp2_with (with_reducible refine G.any_mark _ ?_; (try generalize Array.size (World.heap (G.w _)) = bk); (try dsimp only [List.set_cons_zero, List.set_cons_succ]); (try clear g); intro g)
    go_region_held3 (G.held g) (simp [G.held, HeldL, go_sem]) (first | (go_at_call 15; (first | (with_reducible refine (rprod_w x x H1 L1 HX.out HX.out E1.out F1.out _).mono ?_) | (with_reducible refine (rprod_w y y H2 L2 HY.out HY.out E2.out F2.out _).mono ?_)); rintro e w1 ⟨rfl, hb⟩; obtain ⟨g1, rfl⟩ := G.call_ex _ hb; clear hb; (try clear g); revert g1; intro g) | (go_at_call 38; refine (rPlus_w H1 L1 H2 L2 A B 5 _ R1.out.1 R1.out.2 R2.out.1 R2.out.2 (by rw [D1.out, D2.out]) HA.out HB.out OV.out.1 _).mono ?_; rintro e w1 ⟨rfl, hb⟩; obtain ⟨g1, rfl⟩ := G.call_ex _ hb; clear hb; (try clear g); revert g1; intro g))
    all_goals
      go_wp2_with (with_reducible refine G.any_mark _ ?_; (try generalize Array.size (World.heap (G.w _)) = bk); (try dsimp only [List.set_cons_zero, List.set_cons_succ]); (try clear g); intro g)
      refine bodyPost_ret (v := .tuple #[.agg #[.int .i64 0, .int .u64 0], .int .i64 5]) (by simp [results, Try.results13, go_sem]) rfl ⟨rfl, G.below _⟩
end Go.Proofs.Ytodigegjngnknaa.X
