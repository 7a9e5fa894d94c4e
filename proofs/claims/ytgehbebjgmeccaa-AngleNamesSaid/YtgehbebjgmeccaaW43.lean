/- Contracts of functions of the program and of its reference, out of walks. Their conditions stand ahead of each. -/
import Derived.Test.YtgehbebjgmeccaaW42
set_option linter.unusedVariables false
set_option linter.unusedSimpArgs false
namespace Go.Proofs.Ytgehbebjgmeccaa
open Go.RowKit GW
theorem prod_w (a b H L : Int) (ha : Fx.R64 a) (hb : Fx.R64 b) (hH : a * b / 18446744073709551616 = H) (hL : a * b % 18446744073709551616 = L) (w : World) :
    Calls Try.prog 95 #[.int .i64 a, .int .i64 b] w fun e w' => e = .returned (.agg #[.int .i64 H, .int .u64 L]) ∧ Below w.heap.size w w' := by
  subst hH; subst hL; exact prod_any a b ha hb w
theorem Plus_w (a0 a1 b0 b1 A B E s : Int) (h1 : Fx.R64 a0) (h2 : Fx.U64 a1) (h3 : Fx.R64 b0) (h4 : Fx.U64 b1) (hs : Fx.wd a0 a1 + Fx.wd b0 b1 = s) (hA : Fx.ovH s = A) (hB : Fx.ovL s = B) (hE : Fx.ovE s = E) (w : World) :
    Calls Try.prog 96 #[.agg #[.int .i64 a0, .int .u64 a1], .agg #[.int .i64 b0, .int .u64 b1]] w fun e w' =>
      e = .returned (.tuple #[.agg #[.int .i64 A, .int .u64 B], .int .i64 E]) ∧ Below w.heap.size w w' := by
  subst hA; subst hB; subst hE; subst hs; exact Plus_any a0 a1 b0 b1 h1 h2 h3 h4 w
def part (x y z : Int) : Nat → Int
  | 0 => 0
  | 1 => x * x
  | 2 => x * x + y * y
  | _ => x * x + y * y + z * z
def nth3 (x y z : Int) : Nat → Int
  | 0 => x
  | 1 => y
  | _ => z
theorem part_succ (x y z : Int) (n : Nat) (h : n < 3) : part x y z (n + 1) = part x y z n + nth3 x y z n * nth3 x y z n := by
  match n, h with
  | 0, _ => simp [part, nth3]
  | 1, _ => rfl
  | 2, _ => rfl
theorem part_up (x y z : Int) (hx : Fx.R64 x) (hy : Fx.R64 y) (hz : Fx.R64 z) (n : Nat) (h : n ≤ 3) (hn : ¬ Fx.in128 (part x y z n)) : ¬ Fx.in128 (part x y z 3) := by
  have a := Fx.sq_in x hx
  have b := Fx.sq_in y hy
  have c := Fx.sq_in z hz
  match n, h with
  | 0, _ => exact absurd (show Fx.in128 0 from ⟨by decide, by decide⟩) hn
  | 1, _ =>
    have hn' : ¬ Fx.in128 (x * x) := hn
    show ¬ Fx.in128 (x * x + y * y + z * z)
    unfold Fx.in128 at *; omega
  | 2, _ =>
    have hn' : ¬ Fx.in128 (x * x + y * y) := hn
    show ¬ Fx.in128 (x * x + y * y + z * z)
    unfold Fx.in128 at *; omega
  | 3, _ => exact hn
theorem nth3_r (x y z : Int) (hx : Fx.R64 x) (hy : Fx.R64 y) (hz : Fx.R64 z) (n : Nat) : Fx.R64 (nth3 x y z n) := by
  match n with
  | 0 => exact hx
  | 1 => exact hy
  | n + 2 => exact hz
set_option maxHeartbeats 4000000 in
set_option maxRecDepth 100000 in
theorem Norm_any (x y z : Int) (hx : Fx.R64 x) (hy : Fx.R64 y) (hz : Fx.R64 z) (w : World) :
    Calls Try.prog 103 #[.agg #[.int .i64 x, .int .i64 y, .int .i64 z]] w fun e w' =>
      e = .returned (.tuple #[.agg #[.int .i64 (Fx.ovH (x * x + y * y + z * z)), .int .u64 (Fx.ovL (x * x + y * y + z * z))], .int .i64 (Fx.ovE (x * x + y * y + z * z))]) ∧ Below w.heap.size w w' := by
  have HP := Lib.hid (part_up x y z hx hy hz)
  have HN := Lib.hid (nth3_r x y z hx hy hz)
  have HS := Lib.hid (part_succ x y z)
  rw [show x * x + y * y + z * z = part x y z 3 from rfl]
  clear hx hy hz
  refine calls_g fun g => ?_
  go_enter Try.func103, Try.ntmps103
  go_wp2_with (with_reducible refine G.any_mark _ ?_; (try generalize Array.size (World.heap (G.w _)) = bk); (try dsimp only [List.set_cons_zero, List.set_cons_succ]); (try clear g); intro g)
  rename_i b1 b2 b4 K hK
  generalize hl : [Value.int .i64 x, Value.int .i64 y, Value.int .i64 z] = l at g
  have HLL := Lib.hid hl
  clear hl
  go_loopw [18] (fun k wr => ∃ n : Nat, n ≤ 3 ∧ k = .int .i64 n ∧ ∃ (A B : Int) (g : G w [] [(bk, 3, l), (b4, 62, [.int .i64 A, .int .u64 B]), (b2, 62, [.int .i64 0, .int .u64 0]), (b1, 85, l)] []), wr = g.w ∧ Fx.R64 A ∧ Fx.U64 B ∧ Fx.wd A B = part x y z n) (fun k _ => 3 - (intOf k).toNat)
  case atStart => exact ⟨0, by omega, rfl, 0, 0, g, rfl, by unfold Fx.R64; omega, by unfold Fx.U64; omega, rfl⟩
  case round =>
    obtain ⟨n, hn, rfl, A, B, g', rfl, hA, hB, hAB⟩ := hrel
    clear g
    revert g'
    intro g
    by_cases hlt : n < 3
    · have hc : l[n]? = some (.int .i64 (nth3 x y z n)) := by
        rw [← HLL.out]
        match n, hlt with
        | 0, _ => rfl
        | 1, _ => rfl
        | 2, _ => rfl
      have hr := HN.out n
      have hin2 := Fx.sq_in _ hr
      have hs := HS.out n hlt
      rw [← hAB] at hs
      have H2 := Lib.hid hin2
      have HR := Lib.hid hr
      have HA := Lib.hid hA
      have HB := Lib.hid hB
      have HS1 := Lib.hid hs
      have n0 : (0 : Int) ≤ n := by omega
      have n3 : (n : Int) < 3 := by omega
      have wn : IntKind.i64.wrap ((n : Int) + 1) = (n : Int) + 1 := IntWalk.i64_in _ (by omega)
      clear hr hin2 hA hB hAB hs
      generalize hp : nth3 x y z n = p at *
      clear hp
      have hsq : Fx.in128 (p * p) := by have := H2.out; unfold Fx.in128; omega
      have HRD := Lib.hid (Fx.dm_rng hsq)
      have HWD := Lib.hid (Fx.wd_dm (p * p))
      generalize hH : p * p / 18446744073709551616 = H at *
      generalize hL : p * p % 18446744073709551616 = L at *
      generalize hA' : Fx.ovH (Fx.wd A B + p * p) = A' at *
      generalize hB' : Fx.ovL (Fx.wd A B + p * p) = B' at *
      have HH := Lib.hid hH
      have HL := Lib.hid hL
      have HA' := Lib.hid hA'
      have HB' := Lib.hid hB'
      clear hH hL hA' hB' hsq
      by_cases hin : Fx.in128 (Fx.wd A B + p * p)
      · have OV := Lib.hid (Fx.ov_w hin)
        rw [HA'.out, HB'.out] at OV
        clear hin
        go_wp2_with (with_reducible refine G.any_mark _ ?_; (try generalize Array.size (World.heap (G.w _)) = bk); (try dsimp only [List.set_cons_zero, List.set_cons_succ]); (try clear g); intro g)
        clear hc
        go_region_held3 (G.held g) (simp [G.held, HeldL, go_sem]) (first | (go_at_call 95; refine (prod_w p p H L HR.out HR.out HH.out HL.out _).mono ?_; rintro e w1 ⟨rfl, hb⟩; obtain ⟨g1, rfl⟩ := G.call_ex _ hb; clear hb; (try clear g); revert g1; intro g) | (go_at_call 96; refine (Plus_w A B H L A' B' 0 _ HA.out HB.out HRD.out.1 HRD.out.2 (by rw [HWD.out]) HA'.out HB'.out OV.out.2.2.2 _).mono ?_; rintro e w1 ⟨rfl, hb⟩; obtain ⟨g1, rfl⟩ := G.call_ex _ hb; clear hb; (try clear g); revert g1; intro g))
        all_goals
          go_wp2_with (with_reducible refine G.any_mark _ ?_; (try generalize Array.size (World.heap (G.w _)) = bk); (try dsimp only [List.set_cons_zero, List.set_cons_succ]); (try clear g); intro g)
          exact ⟨⟨n + 1, by omega, by go_num, A', B', G.less_ex _ (.cons _ (.refl _)) ⟨OV.out.1, OV.out.2.1, by rw [OV.out.2.2.1, HS1.out]⟩⟩, by simp [intOf]; omega⟩
      · have OV := Lib.hid (Fx.ov_no hin)
        rw [HA'.out, HB'.out] at OV
        rw [← HS1.out] at hin
        have HV := Lib.hid (Fx.ov_no (HP.out (n + 1) (by omega) hin))
        clear hin
        go_wp2_with (with_reducible refine G.any_mark _ ?_; (try generalize Array.size (World.heap (G.w _)) = bk); (try dsimp only [List.set_cons_zero, List.set_cons_succ]); (try clear g); intro g)
        clear hc
        go_region_held3 (G.held g) (simp [G.held, HeldL, go_sem]) (first | (go_at_call 95; refine (prod_w p p H L HR.out HR.out HH.out HL.out _).mono ?_; rintro e w1 ⟨rfl, hb⟩; obtain ⟨g1, rfl⟩ := G.call_ex _ hb; clear hb; (try clear g); revert g1; intro g) | (go_at_call 96; refine (Plus_w A B H L A' B' 5 _ HA.out HB.out HRD.out.1 HRD.out.2 (by rw [HWD.out]) HA'.out HB'.out OV.out.1 _).mono ?_; rintro e w1 ⟨rfl, hb⟩; obtain ⟨g1, rfl⟩ := G.call_ex _ hb; clear hb; (try clear g); revert g1; intro g))
        all_goals
          go_wp2_with (with_reducible refine G.any_mark _ ?_; (try generalize Array.size (World.heap (G.w _)) = bk); (try dsimp only [List.set_cons_zero, List.set_cons_succ]); (try clear g); intro g)
          rw [HV.out.1, HV.out.2.1, HV.out.2.2]
          refine bodyPost_ret (v := .tuple #[.agg #[.int .i64 0, .int .u64 0], .int .i64 5]) (by simp [results, Try.results103, go_sem]) rfl ⟨rfl, G.below _⟩
    · have : n = 3 := by omega
      subst this
      have e1 := Fx.ov_of hA hB
      rw [hAB] at e1
      have E1 := Lib.hid e1
      clear hA hB hAB hlt hn e1
      go_wp2_with (with_reducible refine G.any_mark _ ?_; (try generalize Array.size (World.heap (G.w _)) = bk); (try dsimp only [List.set_cons_zero, List.set_cons_succ]); (try clear g); intro g)
      rw [E1.out.2.1, E1.out.2.2.1, E1.out.2.2.2]
      refine bodyPost_ret (v := .tuple #[.agg #[.int .i64 A, .int .u64 B], .int .i64 0]) (by simp [results, Try.results103, go_sem]) rfl ⟨rfl, G.below _⟩
end Go.Proofs.Ytgehbebjgmeccaa
