/- Plain facts and contracts of functions of the program, out of walks. Their conditions stand ahead of each. -/
import Derived.Test.YtodigegjngnknaaDe1
import Derived.Test.YtodigegjngnknaaDe20
import Derived.Below
import Derived.BigQuiet
import Derived.Deep.Draws
import Derived.Deep.QuietTactic
import Derived.Deep.RegionHeld3
import Derived.Laws.Bits128
import Derived.Laws.NewBlocks
import Derived.Laws.OwnMore
import Derived.Laws.Pointers
import Derived.Laws.Rows
import Derived.Lib.BitFns
import Derived.Lib.Hide
import Derived.Lib.ItoaNum
import Derived.LoopIn
import Derived.LoopNIn
import Derived.OrdersIn
import Derived.OwnWalkIn
import Derived.RangeFuncBound
import Derived.RangeFuncBox
import Derived.RangeFuncCalls
import Derived.RangeFuncLeaves
import Derived.RangeFuncNested
import Derived.RowKit3
import Derived.Shelf.Abstract
import Derived.Shelf.RegionOpen
import Derived.StillTactics
import Derived.StillTailTactics
import Derived.TacticsInMore
import Derived.Test.YtodigegjngnknaaProg
import Derived.WalkKit
import Derived.WalkLawsBesides
import Derived.WalkSpells
set_option linter.unusedVariables false
set_option linter.unusedSimpArgs false
set_option exponentiation.threshold 10000
namespace Go.Proofs.Ytodigegjngnknaa
open Go.RowKit GW NL
theorem and_mask (k : Nat) (hk : k < 63) (m : Int) (hm : m = (2 : Int) ^ k - 1) (n : Int) : bits .and .i64 n m = n % (m + 1) := by
  subst hm
  have e1 : ((2 : Int) ^ k - 1) = ((2 ^ k - 1 : Nat) : Int) := by
    have : 1 ≤ 2 ^ k := Nat.one_le_two_pow
    rw [Int.natCast_sub this, Int.natCast_pow]; rfl
  have lt : 2 ^ k ≤ 2 ^ 62 := Nat.pow_le_pow_right (by omega) (by omega)
  have hmk : (BitVec.ofInt 64 ((2 : Int) ^ k - 1)).toNat = 2 ^ k - 1 := by
    rw [e1, BitVec.ofInt_natCast, BitVec.toNat_ofNat]
    exact Nat.mod_eq_of_lt (by omega)
  have key : (BitVec.ofInt 64 n &&& BitVec.ofInt 64 ((2 : Int) ^ k - 1)).toNat = (n % ((2 ^ 64 : Nat) : Int)).toNat % 2 ^ k := by
    rw [BitVec.toNat_and, BitVec.toNat_ofInt, hmk, Nat.and_two_pow_sub_one_eq_mod]
  show IntKind.i64.wrap ((BitVec.ofInt 64 n &&& BitVec.ofInt 64 ((2 : Int) ^ k - 1)).toNat : Nat) = _
  rw [key, IntKind.wrap_i64]
  have hd : (2 ^ k : Nat) ∣ 2 ^ 64 := Nat.pow_dvd_pow 2 (by omega)
  have e2 : (((n % ((2 ^ 64 : Nat) : Int)).toNat % 2 ^ k : Nat) : Int) = n % (2 : Int) ^ k := by
    rw [Int.natCast_emod, Int.toNat_of_nonneg (Int.emod_nonneg _ (by simp)), Int.natCast_pow]
    rw [Int.emod_emod_of_dvd]
    · rfl
    · exact_mod_cast hd
  rw [e2]
  have b0 : 0 ≤ n % (2 : Int) ^ k := Int.emod_nonneg _ (by have := Int.pow_pos (n := 2) (m := k) (by omega); omega)
  have b1 : n % (2 : Int) ^ k < (2 : Int) ^ k := Int.emod_lt_of_pos _ (Int.pow_pos (by omega))
  have b2 : ((2 : Int) ^ k) ≤ 4611686018427387904 := by
    have := (Int.ofNat_le.2 lt); simpa using this
  rw [show (2 : Int) ^ k - 1 + 1 = (2 : Int) ^ k from by omega]
  generalize n % (2 : Int) ^ k = z at *
  omega
theorem mul_bd {x y k j : Int} (hk : 0 ≤ k) (hx : -k ≤ x ∧ x ≤ k) (hy : -j ≤ y ∧ y ≤ j) : -(k * j) ≤ x * y ∧ x * y ≤ k * j := by
  have h := DI.mul_ab (y := y) (show x ≤ k ∧ -k ≤ x from ⟨hx.2, hx.1⟩)
  have h2 := DI.ab_le hy
  have h3 := Int.mul_le_mul_of_nonneg_left h2.1 hk
  omega
/-- one step of Along -/
theorem along_step (u v W R : Int) (hu : In 1073741824 u) (hv : In 100000000000 v) (hW : -1099511627776 ≤ W ∧ W ≤ 1099511627776) (hR : 0 ≤ R ∧ R ≤ 4294967296) :
    ∃ h l q p W1 pd W2 pm R2 : Int, Int.tdiv v 1073741824 = h ∧ IntKind.i64.wrap h = h ∧ Int.tmod v 1073741824 = l ∧ IntKind.i64.wrap l = l ∧ IntKind.i64.wrap (h * u) = q ∧ IntKind.i64.wrap (W + q) = W1 ∧ IntKind.i64.wrap (l * u) = p ∧ p / 1073741824 = pd ∧ IntKind.i64.wrap pd = pd ∧ IntKind.i64.wrap (W1 + pd) = W2 ∧ bits .and .i64 p 1073741823 = pm ∧ IntKind.i64.wrap (R + pm) = R2 ∧
      1073741824 * W2 + R2 = 1073741824 * W + R + u * v ∧ 0 ≤ R2 ∧ R2 ≤ R + 1073741823 ∧ W - 206158430208 ≤ W2 ∧ W2 ≤ W + 206158430208 := by
  obtain ⟨h, hh⟩ : ∃ h, Int.tdiv v 1073741824 = h := ⟨_, rfl⟩
  obtain ⟨l, hl⟩ : ∃ l, Int.tmod v 1073741824 = l := ⟨_, rfl⟩
  have e : 1073741824 * h + l = v := by rw [← hh, ← hl]; exact Int.mul_tdiv_add_tmod v 1073741824
  have l1 : l < 1073741824 := by rw [← hl]; exact Int.tmod_lt_of_pos _ (by decide)
  have l2 : -1073741824 < l := by rw [← hl]; exact Int.lt_tmod_of_pos v (b := 1073741824) (by decide)
  unfold In at hu hv
  have hb : -95 ≤ h ∧ h ≤ 95 := by omega
  have q1 := mul_bd (by decide) hb hu
  have p1 := mul_bd (k := 1073741824) (by decide) (show -1073741824 ≤ l ∧ l ≤ 1073741824 by omega) hu
  obtain ⟨q, hq⟩ : ∃ q, h * u = q := ⟨_, rfl⟩
  obtain ⟨p, hp⟩ : ∃ p, l * u = p := ⟨_, rfl⟩
  rw [hq] at q1
  rw [hp] at p1
  have e2 : u * v = 1073741824 * q + p := by rw [← e, ← hq, ← hp]; grind
  have m := and_mask 30 (by decide) 1073741823 (by decide) p
  rw [show (1073741823 : Int) + 1 = 1073741824 by decide] at m
  refine ⟨h, l, q, p, W + q, p / 1073741824, W + q + p / 1073741824, p % 1073741824, R + p % 1073741824, hh, ?_, hl, ?_, by rw [hq, IntKind.wrap_i64]; omega, by rw [IntKind.wrap_i64]; omega, by rw [hp, IntKind.wrap_i64]; omega, rfl, by rw [IntKind.wrap_i64]; omega, by rw [IntKind.wrap_i64]; omega, m, by rw [IntKind.wrap_i64]; omega, by rw [e2]; omega, by omega, by omega, by omega, by omega⟩
  all_goals rw [IntKind.wrap_i64]; omega
/-- the end of Along -/
theorem along_end (W R S : Int) (hS : 1073741824 * W + R = S) (hW : -1099511627776 ≤ W ∧ W ≤ 1099511627776) (hR : 0 ≤ R ∧ R ≤ 4294967296) :
    ∃ rd W2 R2 : Int, R / 1073741824 = rd ∧ IntKind.i64.wrap rd = rd ∧ IntKind.i64.wrap (W + rd) = W2 ∧ bits .and .i64 R 1073741823 = R2 ∧ IntKind.i64.wrap (W2 + 1) = W2 + 1 ∧
      ((536870912 < R2 ∧ DI.rnd S = W2 + 1) ∨ (R2 = 536870912 ∧ 0 ≤ W2 ∧ DI.rnd S = W2 + 1) ∨ (R2 = 536870912 ∧ W2 < 0 ∧ DI.rnd S = W2) ∨ (R2 < 536870912 ∧ DI.rnd S = W2)) := by
  have m := and_mask 30 (by decide) 1073741823 (by decide) R
  rw [show (1073741823 : Int) + 1 = 1073741824 by decide] at m
  refine ⟨R / 1073741824, W + R / 1073741824, R % 1073741824, rfl, by rw [IntKind.wrap_i64]; omega, by rw [IntKind.wrap_i64]; omega, m, by rw [IntKind.wrap_i64]; omega, ?_⟩
  have h := DI.rnd_split S (W + R / 1073741824) (R % 1073741824) (by omega) (by omega) (by omega)
  rw [h]
  split <;> omega
theorem idx6 (X Y Z U V W : Int) (w : World) : (Instr.index 78 (.agg #[.int .i64 X, .int .i64 U, .int .i64 Y, .int .i64 V, .int .i64 Z, .int .i64 W]) (.int .i64 0)).run Try.prog w = .ok (.agg #[.int .i64 X, .int .i64 U]) w ∧ (Instr.index 78 (.agg #[.int .i64 X, .int .i64 U, .int .i64 Y, .int .i64 V, .int .i64 Z, .int .i64 W]) (.int .i64 1)).run Try.prog w = .ok (.agg #[.int .i64 Y, .int .i64 V]) w ∧ (Instr.index 78 (.agg #[.int .i64 X, .int .i64 U, .int .i64 Y, .int .i64 V, .int .i64 Z, .int .i64 W]) (.int .i64 2)).run Try.prog w = .ok (.agg #[.int .i64 Z, .int .i64 W]) w := by
  refine ⟨?_, ?_, ?_⟩ <;> kernel_rfl
set_option maxRecDepth 20000 in
set_option maxHeartbeats 2000000 in
theorem dalong_yes (X Y Z U V W : Int) (hu : In3 1073741824 X Y Z) (hv : In3 100000000000 U V W) (w : World) :
    Calls Try.prog 21 #[.agg #[.int .i64 X, .int .i64 Y, .int .i64 Z], .agg #[.int .i64 U, .int .i64 V, .int .i64 W]] w fun e w' => e = .returned (.tuple #[.int .i64 (DI.rnd (X * U + Y * V + Z * W)), .int .i64 0]) ∧ Below w.heap.size w w' := by
  refine calls_b fun g => ?_
  have CN := Lib.hid (fun s w h0 h1 h2 => near1_any s U V W w h0 h1 h2)
  rw [decide_eq_true hv, show nearE true = 0 from rfl] at CN
  have CW := Lib.hid (fun w => within_any X Y Z 1073741824 (by decide) (by decide) w)
  rw [decide_eq_true hu] at CW
  have HB := Lib.hid (And.intro hu hv)
  clear hu hv
  go_enter Try.func21, Try.ntmps21
  go_wp2_with (with_reducible refine G.any_mark _ ?_; (try generalize Array.size (World.heap (G.w _)) = bk); (try dsimp only [List.set_cons_zero, List.set_cons_succ]); (try clear g); intro g)
  refine (CN.out _ _ ?_ ?_ ?_).mono ?_
  iterate 3 (· go_simp)
  rintro e w1 ⟨rfl, hb⟩
  obtain ⟨g1, rfl⟩ := G.call_ex _ hb
  clear hb
  (try clear g)
  revert g1
  intro g
  go_wp2_with (with_reducible refine G.any_mark _ ?_; (try generalize Array.size (World.heap (G.w _)) = bk); (try dsimp only [List.set_cons_zero, List.set_cons_succ]); (try clear g); intro g)
  refine (CW.out _).mono ?_
  rintro e w1 ⟨rfl, hb⟩
  obtain ⟨g1, rfl⟩ := G.call_ex _ hb
  clear hb
  (try clear g)
  revert g1
  intro g
  go_wp2_with (with_reducible refine G.any_mark _ ?_; (try generalize Array.size (World.heap (G.w _)) = bk); (try dsimp only [List.set_cons_zero, List.set_cons_succ]); (try clear g); intro g)
  obtain ⟨g2, hg2⟩ := G.less g (M' := []) (List.nil_sublist _)
  rw [hg2]
  clear hg2
  (try clear g)
  revert g2
  intro g
  go_loopw [7, 8, 41] (fun s7 s8 s41 wr => ∃ (k : Nat) (A R : Int), s7 = .int .i64 A ∧ s8 = .int .i64 R ∧ (-206158430208 * k ≤ A ∧ A ≤ 206158430208 * k) ∧ (0 ≤ R ∧ R ≤ 1073741823 * k) ∧ ((k = 0 ∧ s41 = .int .i64 0 ∧ 1073741824 * A + R = 0) ∨ (k = 1 ∧ s41 = .int .i64 1 ∧ 1073741824 * A + R = X * U) ∨ (k = 2 ∧ s41 = .int .i64 2 ∧ 1073741824 * A + R = X * U + Y * V) ∨ (k = 3 ∧ s41 = .int .i64 3 ∧ 1073741824 * A + R = X * U + Y * V + Z * W)) ∧ ∃ g : G w [] [] [heapOf w], wr = g.w) (fun _ _ i _ => 3 - (intOf i).toNat)
  case atStart => exact ⟨0, 0, 0, rfl, rfl, by omega, by omega, .inl ⟨rfl, rfl, by omega⟩, g, rfl⟩
  case round =>
    clear g
    obtain ⟨k, A, R, rfl, rfl, hA, hR, hk, g, rfl⟩ := hrel
    rcases hk with ⟨rfl, rfl, hS⟩ | ⟨rfl, rfl, hS⟩ | ⟨rfl, rfl, hS⟩ | ⟨rfl, rfl, hS⟩
    · obtain ⟨h, l, q, p, W1, pd, W2, pm, R2, e1, e2, e3, e4, e5, e6, e7, e8, e9, e10, e11, e12, f1, f2, f3, f4, f5⟩ := along_step X U A R HB.out.1.1 HB.out.2.1 (by omega) (by omega)
      have HH := Lib.hid (And.intro hS (And.intro hA (And.intro hR (And.intro f1 (And.intro f2 (And.intro f3 (And.intro f4 f5)))))))
      clear hS hA hR f1 f2 f3 f4 f5
      have ix0 := (idx6 X Y Z U V W g.w).1
      go_wp2_with (with_reducible refine G.any_mark _ ?_; (try generalize Array.size (World.heap (G.w _)) = bk); (try dsimp only [List.set_cons_zero, List.set_cons_succ]); (try clear g); intro g)
      go_region_held3 (fun Wx => Wx.cell? ⟨bk, 1, none⟩ = some (.int .i64 U)) ((go_simp; done)) (fail)
      all_goals (first | (with_reducible refine G.any_mark _ ?_; (try generalize Array.size (World.heap (G.w _)) = bk); (try dsimp only [List.set_cons_zero, List.set_cons_succ]); (try clear g); intro g) | skip)
      go_wp2_with (with_reducible refine G.any_mark _ ?_; (try generalize Array.size (World.heap (G.w _)) = bk); (try dsimp only [List.set_cons_zero, List.set_cons_succ]); (try clear g); intro g)
      obtain ⟨hS, hA, hR, f1, f2, f3, f4, f5⟩ := HH.out
      obtain ⟨g2, hg2⟩ := G.less g (M' := []) (List.nil_sublist _)
      exact ⟨⟨1, W2, R2, rfl, rfl, by omega, by omega, .inr (.inl ⟨rfl, rfl, by omega⟩), g2, hg2⟩, by simp [intOf]⟩
    · obtain ⟨h, l, q, p, W1, pd, W2, pm, R2, e1, e2, e3, e4, e5, e6, e7, e8, e9, e10, e11, e12, f1, f2, f3, f4, f5⟩ := along_step Y V A R HB.out.1.2.1 HB.out.2.2.1 (by omega) (by omega)
      have HH := Lib.hid (And.intro hS (And.intro hA (And.intro hR (And.intro f1 (And.intro f2 (And.intro f3 (And.intro f4 f5)))))))
      clear hS hA hR f1 f2 f3 f4 f5
      have ix1 := (idx6 X Y Z U V W g.w).2.1
      go_wp2_with (with_reducible refine G.any_mark _ ?_; (try generalize Array.size (World.heap (G.w _)) = bk); (try dsimp only [List.set_cons_zero, List.set_cons_succ]); (try clear g); intro g)
      go_region_held3 (fun Wx => Wx.cell? ⟨bk, 1, none⟩ = some (.int .i64 V)) ((go_simp; done)) (fail)
      all_goals (first | (with_reducible refine G.any_mark _ ?_; (try generalize Array.size (World.heap (G.w _)) = bk); (try dsimp only [List.set_cons_zero, List.set_cons_succ]); (try clear g); intro g) | skip)
      go_wp2_with (with_reducible refine G.any_mark _ ?_; (try generalize Array.size (World.heap (G.w _)) = bk); (try dsimp only [List.set_cons_zero, List.set_cons_succ]); (try clear g); intro g)
      obtain ⟨hS, hA, hR, f1, f2, f3, f4, f5⟩ := HH.out
      obtain ⟨g2, hg2⟩ := G.less g (M' := []) (List.nil_sublist _)
      exact ⟨⟨2, W2, R2, rfl, rfl, by omega, by omega, .inr (.inr (.inl ⟨rfl, rfl, by omega⟩)), g2, hg2⟩, by simp [intOf]⟩
    · obtain ⟨h, l, q, p, W1, pd, W2, pm, R2, e1, e2, e3, e4, e5, e6, e7, e8, e9, e10, e11, e12, f1, f2, f3, f4, f5⟩ := along_step Z W A R HB.out.1.2.2 HB.out.2.2.2 (by omega) (by omega)
      have HH := Lib.hid (And.intro hS (And.intro hA (And.intro hR (And.intro f1 (And.intro f2 (And.intro f3 (And.intro f4 f5)))))))
      clear hS hA hR f1 f2 f3 f4 f5
      have ix2 := (idx6 X Y Z U V W g.w).2.2
      go_wp2_with (with_reducible refine G.any_mark _ ?_; (try generalize Array.size (World.heap (G.w _)) = bk); (try dsimp only [List.set_cons_zero, List.set_cons_succ]); (try clear g); intro g)
      go_region_held3 (fun Wx => Wx.cell? ⟨bk, 1, none⟩ = some (.int .i64 W)) ((go_simp; done)) (fail)
      all_goals (first | (with_reducible refine G.any_mark _ ?_; (try generalize Array.size (World.heap (G.w _)) = bk); (try dsimp only [List.set_cons_zero, List.set_cons_succ]); (try clear g); intro g) | skip)
      go_wp2_with (with_reducible refine G.any_mark _ ?_; (try generalize Array.size (World.heap (G.w _)) = bk); (try dsimp only [List.set_cons_zero, List.set_cons_succ]); (try clear g); intro g)
      obtain ⟨hS, hA, hR, f1, f2, f3, f4, f5⟩ := HH.out
      obtain ⟨g2, hg2⟩ := G.less g (M' := []) (List.nil_sublist _)
      exact ⟨⟨3, W2, R2, rfl, rfl, by omega, by omega, .inr (.inr (.inr ⟨rfl, rfl, by omega⟩)), g2, hg2⟩, by simp [intOf]⟩
    · obtain ⟨rd, W2, R2, e1, e2, e3, e4, e5, hc⟩ := along_end A R _ hS (by omega) (by omega)
      clear hS hA hR
      rcases hc with ⟨c1, hr⟩ | ⟨c1, c2, hr⟩ | ⟨c1, c2, hr⟩ | ⟨c1, hr⟩
      · have HR := Lib.hid hr
        clear hr
        go_wp2_with (with_reducible refine G.any_mark _ ?_; (try generalize Array.size (World.heap (G.w _)) = bk); (try dsimp only [List.set_cons_zero, List.set_cons_succ]); (try clear g); intro g)
        go_ret2
        exact ⟨by rw [HR.out]; rfl, G.below _⟩
      · have HR := Lib.hid hr
        subst c1
        clear hr
        go_wp2_with (with_reducible refine G.any_mark _ ?_; (try generalize Array.size (World.heap (G.w _)) = bk); (try dsimp only [List.set_cons_zero, List.set_cons_succ]); (try clear g); intro g)
        go_ret2
        exact ⟨by rw [HR.out]; rfl, G.below _⟩
      · have HR := Lib.hid hr
        subst c1
        have c3 : ¬ 0 ≤ W2 := by omega
        clear hr
        go_wp2_with (with_reducible refine G.any_mark _ ?_; (try generalize Array.size (World.heap (G.w _)) = bk); (try dsimp only [List.set_cons_zero, List.set_cons_succ]); (try clear g); intro g)
        go_ret2
        exact ⟨by rw [HR.out]; rfl, G.below _⟩
      · have HR := Lib.hid hr
        have c3 : ¬ 536870912 < R2 := by omega
        have c4 : (R2 == 536870912) = false := by rw [beq_eq_false_iff_ne]; omega
        clear hr
        go_wp2_with (with_reducible refine G.any_mark _ ?_; (try generalize Array.size (World.heap (G.w _)) = bk); (try dsimp only [List.set_cons_zero, List.set_cons_succ]); (try clear g); intro g)
        go_ret2
        exact ⟨by rw [HR.out]; rfl, G.below _⟩
set_option maxRecDepth 20000 in
theorem dalong_no (X Y Z U V W : Int) (h : ¬ (In3 1073741824 X Y Z ∧ In3 100000000000 U V W)) (w : World) :
    Calls Try.prog 21 #[.agg #[.int .i64 X, .int .i64 Y, .int .i64 Z], .agg #[.int .i64 U, .int .i64 V, .int .i64 W]] w fun e w' => e = .returned (.tuple #[.int .i64 0, .int .i64 2]) ∧ Below w.heap.size w w' := by
  refine calls_b fun g => ?_
  have CN := Lib.hid (fun s w h0 h1 h2 => near1_any s U V W w h0 h1 h2)
  have CW := Lib.hid (fun w => within_any X Y Z 1073741824 (by decide) (by decide) w)
  by_cases hv : In3 100000000000 U V W
  · have hu : ¬ In3 1073741824 X Y Z := fun hu => h ⟨hu, hv⟩
    rw [decide_eq_true hv, show nearE true = 0 from rfl] at CN
    rw [decide_eq_false hu] at CW
    clear h hu hv
    go_enter Try.func21, Try.ntmps21
    go_wp2_with (with_reducible refine G.any_mark _ ?_; (try generalize Array.size (World.heap (G.w _)) = bk); (try dsimp only [List.set_cons_zero, List.set_cons_succ]); (try clear g); intro g)
    refine (CN.out _ _ ?_ ?_ ?_).mono ?_
    iterate 3 (· go_simp)
    rintro e w1 ⟨rfl, hb⟩
    obtain ⟨g1, rfl⟩ := G.call_ex _ hb
    clear hb
    (try clear g)
    revert g1
    intro g
    go_wp2_with (with_reducible refine G.any_mark _ ?_; (try generalize Array.size (World.heap (G.w _)) = bk); (try dsimp only [List.set_cons_zero, List.set_cons_succ]); (try clear g); intro g)
    refine (CW.out _).mono ?_
    rintro e w1 ⟨rfl, hb⟩
    obtain ⟨g1, rfl⟩ := G.call_ex _ hb
    clear hb
    (try clear g)
    revert g1
    intro g
    go_wp2_with (with_reducible refine G.any_mark _ ?_; (try generalize Array.size (World.heap (G.w _)) = bk); (try dsimp only [List.set_cons_zero, List.set_cons_succ]); (try clear g); intro g)
    go_ret2
    exact ⟨rfl, G.below _⟩
  · rw [decide_eq_false hv, show nearE false = 2 from rfl] at CN
    clear h hv
    go_enter Try.func21, Try.ntmps21
    go_wp2_with (with_reducible refine G.any_mark _ ?_; (try generalize Array.size (World.heap (G.w _)) = bk); (try dsimp only [List.set_cons_zero, List.set_cons_succ]); (try clear g); intro g)
    refine (CN.out _ _ ?_ ?_ ?_).mono ?_
    iterate 3 (· go_simp)
    rintro e w1 ⟨rfl, hb⟩
    obtain ⟨g1, rfl⟩ := G.call_ex _ hb
    clear hb
    (try clear g)
    revert g1
    intro g
    go_wp2_with (with_reducible refine G.any_mark _ ?_; (try generalize Array.size (World.heap (G.w _)) = bk); (try dsimp only [List.set_cons_zero, List.set_cons_succ]); (try clear g); intro g)
    go_ret2
    exact ⟨rfl, G.below _⟩
end Go.Proofs.Ytodigegjngnknaa
