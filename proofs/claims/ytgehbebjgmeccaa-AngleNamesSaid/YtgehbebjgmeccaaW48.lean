/- Contracts of functions of the program and of its reference, out of walks. Their conditions stand ahead of each. -/
import Derived.Test.YtgehbebjgmeccaaW46
import Derived.Test.YtgehbebjgmeccaaP2
set_option linter.unusedVariables false
set_option linter.unusedSimpArgs false
namespace Go.Proofs.Ytgehbebjgmeccaa
open Go.RowKit GW
theorem right_hi (h l H L : Int) (n : Nat) (h0 : Fx.U64 h) (l0 : Fx.U64 l) (n0 : 64 ≤ n) (n1 : n ≤ 127) (hH : Fx.wd h l / 2 ^ n / 18446744073709551616 = H) (hL : Fx.wd h l / 2 ^ n % 18446744073709551616 = L) (w : World) :
    Calls Try.prog 176 #[.agg #[.int .u64 h, .int .u64 l], .int .i64 n] w fun e w' => e = .returned (.agg #[.int .u64 H, .int .u64 L]) ∧ Below w.heap.size w w' := by
  obtain ⟨m, rfl⟩ : ∃ m, n = m + 64 := ⟨n - 64, by omega⟩
  unfold Fx.wd at hH hL
  rw [Fx.shr_hi h l l0] at hH hL
  unfold Fx.U64 at h0 l0
  have p := Fx.pow_pos' m
  have q : 0 ≤ h / 2 ^ m := Int.ediv_nonneg h0.1 (by omega)
  have q2 : h / 2 ^ m ≤ h := Int.ediv_le_self _ h0.1
  have e0 : H = 0 := by omega
  have e1 : h / 2 ^ m = L := by omega
  subst e0
  have EL := Lib.hid e1
  have a0 : (0 : Int) ≤ m := by omega
  have a1 : (m : Int) ≤ 63 := by omega
  have e2 : ((m + 64 : Nat) : Int) = m + 64 := by omega
  rw [e2]
  have b0 := h0.1
  have b1 := h0.2
  clear hH hL p q q2 e1 n0 n1 l0 h0 e2
  refine calls_g fun g => ?_
  go_enter Try.func176, Try.ntmps176
  go_wp2_with (with_reducible refine G.any_mark _ ?_; (try generalize Array.size (World.heap (G.w _)) = bk); (try dsimp only [List.set_cons_zero, List.set_cons_succ]); (try clear g); intro g)
  rw [← EL.out]
  refine bodyPost_ret (v := .agg #[.int .u64 0, .int .u64 (h / 2 ^ m)]) (by simp [results, Try.results176, go_sem]) rfl ⟨rfl, G.below _⟩
theorem right_lo (h l H L : Int) (n : Nat) (h0 : Fx.U64 h) (l0 : Fx.U64 l) (n1 : n < 64) (hH : Fx.wd h l / 2 ^ n / 18446744073709551616 = H) (hL : Fx.wd h l / 2 ^ n % 18446744073709551616 = L) (w : World) :
    Calls Try.prog 176 #[.agg #[.int .u64 h, .int .u64 l], .int .i64 n] w fun e w' => e = .returned (.agg #[.int .u64 H, .int .u64 L]) ∧ Below w.heap.size w w' := by
  obtain ⟨p1, p2, p3, p4, p5, p6⟩ := Fx.shr_lo h l h0 l0 n (by omega)
  have hor := K.u64or_add _ _ (64 - n) (by omega) p1 p2 p3.1 p3.2 p4
  unfold Fx.wd at hH hL
  rw [← p5] at hH hL
  have a0 : (0 : Int) ≤ n := by omega
  have a1 : (n : Int) < 64 := by omega
  have a2 : ((64 : Int) - n).toNat = 64 - n := by omega
  have a3 : IntKind.i64.wrap (64 - (n : Int)) = 64 - n := IntWalk.i64_in _ (by omega)
  have HOR := Lib.hid hor
  have A2 := Lib.hid a2
  unfold Fx.U64 at h0 l0 p6
  have e1 : h / 2 ^ n = H := by omega
  have e2 : h * 2 ^ (64 - n) % 18446744073709551616 + l / 2 ^ n = L := by omega
  have E1 := Lib.hid e1
  have E2 := Lib.hid e2
  have b0 := h0.1
  have b1 := h0.2
  have b2 := l0.1
  have b3 := l0.2
  clear p1 p2 p3 p4 p5 p6 hor hH hL e1 e2 n1 a2
  refine calls_g fun g => ?_
  go_enter Try.func176, Try.ntmps176
  go_wp2_with (with_reducible refine G.any_mark _ ?_; (try generalize Array.size (World.heap (G.w _)) = bk); (try dsimp only [List.set_cons_zero, List.set_cons_succ]); (try clear g); intro g)
  go_region_held3 (G.heldN g [false, true]) (simp [G.heldN, HeldN, go_sem]) (fail)
  (refine G.any_mark _ ?_; (try generalize Array.size (World.heap (G.w _)) = bk); (try dsimp only [List.set_cons_zero, List.set_cons_succ]); (try clear g); intro g)
  go_wp2_with (with_reducible refine G.any_mark _ ?_; (try generalize Array.size (World.heap (G.w _)) = bk); (try dsimp only [List.set_cons_zero, List.set_cons_succ]); (try clear g); intro g)
  have e3 : bits .or .u64 (l / 2 ^ n) (IntKind.u64.wrap (h * 2 ^ (64 - n))) = L := by rw [IntKind.wrap_u64, HOR.out, E2.out]
  rw [← E1.out, ← e3]
  refine bodyPost_ret (v := .agg #[.int .u64 (h / 2 ^ n), .int .u64 (bits .or .u64 (l / 2 ^ n) (IntKind.u64.wrap (h * 2 ^ (64 - n))))]) (by simp [results, Try.results176, go_sem]) rfl ⟨rfl, G.below _⟩
theorem right_w (h l H L : Int) (n : Int) (h0 : Fx.U64 h) (l0 : Fx.U64 l) (n0 : 0 ≤ n) (n1 : n ≤ 127) (hH : Fx.wd h l / 2 ^ n.toNat / 18446744073709551616 = H) (hL : Fx.wd h l / 2 ^ n.toNat % 18446744073709551616 = L) (w : World) :
    Calls Try.prog 176 #[.agg #[.int .u64 h, .int .u64 l], .int .i64 n] w fun e w' => e = .returned (.agg #[.int .u64 H, .int .u64 L]) ∧ Below w.heap.size w w' := by
  obtain ⟨m, rfl⟩ := Int.eq_ofNat_of_zero_le n0
  rw [Int.toNat_natCast] at hH hL
  by_cases g : 64 ≤ m
  · exact right_hi h l H L m h0 l0 g (by omega) hH hL w
  · exact right_lo h l H L m h0 l0 (by omega) hH hL w
theorem value_any (h l : Int) (neg : Bool) (h0 : Fx.U64 h) (l0 : Fx.U64 l) (w : World) :
    Calls Try.prog 146 #[.agg #[.int .u64 h, .int .u64 l], .bool neg] w fun e w' => e = .returned (.int .i64 (Fx.sgV neg (Fx.wd h l))) ∧ Below w.heap.size w w' := by
  have hv : Fx.sgV neg (Fx.wd h l) = if neg then (if 0 < h ∨ 9223372036854775807 < l then -9223372036854775808 else -l) else (if 0 < h ∨ 9223372036854775807 < l then 9223372036854775807 else l) := by
    unfold Fx.sgV Fx.wd Fx.U64 at *
    cases neg
    · simp only [Bool.false_eq_true, if_false, if_true]
      by_cases q : 0 < h ∨ 9223372036854775807 < l
      · rw [if_pos q, if_pos (by omega)]
      · rw [if_neg q, if_neg (by omega)]; omega
    · simp only [Bool.false_eq_true, if_false, if_true]
      by_cases q : 0 < h ∨ 9223372036854775807 < l
      · rw [if_pos q, if_pos (by omega)]
      · rw [if_neg q, if_neg (by omega)]; omega
  have HV := Lib.hid hv
  unfold Fx.U64 at h0 l0
  obtain ⟨l1, l2⟩ := l0
  obtain ⟨h1, h2⟩ := h0
  clear hv
  cases neg <;> by_cases q : 0 < h <;> by_cases q2 : 9223372036854775807 < l
  all_goals
    have HW := HV.out
    simp only [q, q2, true_or, or_true, or_self, if_true, if_false, Bool.false_eq_true] at HW
    have HX := Lib.hid HW
    clear HW HV
    have hl1 : q = q := rfl
    clear hl1
    refine calls_g fun g => ?_
    go_enter Try.func146, Try.ntmps146
    (go_wp2_with (with_reducible refine G.any_mark _ ?_; (try generalize Array.size (World.heap (G.w _)) = bk); (try dsimp only [List.set_cons_zero, List.set_cons_succ]); (try clear g); intro g)) <;> (go_ret; exact ⟨by rw [HX.out]; rfl, G.below _⟩)
end Go.Proofs.Ytgehbebjgmeccaa
