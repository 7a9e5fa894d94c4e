/- Contracts of functions of the program and of its reference, out of walks. Their conditions stand ahead of each. -/
import Derived.Test.YtgehbebjgmeccaaW51
set_option linter.unusedVariables false
set_option linter.unusedSimpArgs false
namespace Go.Proofs.Ytgehbebjgmeccaa
open Go.RowKit GW
theorem Div64_w (hi lo y q r : Int) (h0 : 0 ≤ hi) (h1 : hi < y) (l0 : Fx.U64 lo) (y1 : y < 18446744073709551616) (hq : (hi * 18446744073709551616 + lo) / y = q) (hr : (hi * 18446744073709551616 + lo) % y = r) (w : World) :
    Calls Try.prog 178 #[.int .u64 hi, .int .u64 lo, .int .u64 y] w fun e w' => e = .returned (.tuple #[.int .u64 q, .int .u64 r]) ∧ Below w.heap.size w w' := by
  by_cases h : hi = 0
  · subst h
    exact Div64_0 lo y q r l0 (by omega) y1 (by rw [← hq]; congr 1; omega) (by rw [← hr]; congr 1; omega) w
  · exact Div64_s hi lo y q r (by omega) h1 l0 y1 hq hr w
theorem over_plain (h l d p hq hr q r : Int) (h0 : 0 ≤ h) (h1 : h < 18446744073709551616) (l0 : 0 ≤ l) (l1 : l < 18446744073709551616) (d0 : 1 ≤ d) (d1 : d < 18446744073709551616) (hp : h * 18446744073709551616 + l = p) (e1 : h / d = hq) (e2 : h % d = hr) (e3 : (hr * 18446744073709551616 + l) / d = q) (e4 : (hr * 18446744073709551616 + l) % d = r) :
    0 ≤ hq ∧ hq ≤ h ∧ 0 ≤ hr ∧ hr < d ∧ 0 ≤ q ∧ q < 18446744073709551616 ∧ 0 ≤ r ∧ r < d ∧ Fx.hup p d = hq * 18446744073709551616 + q + (if d ≤ 2 * r then 1 else 0) := by
  have a := Int.mul_ediv_add_emod h d
  have b := Int.mul_ediv_add_emod (hr * 18446744073709551616 + l) d
  have hr0 : 0 ≤ hr := by rw [← e2]; exact Int.emod_nonneg _ (by omega)
  have hr1 : hr < d := by rw [← e2]; exact Int.emod_lt_of_pos _ (by omega)
  have r0 : 0 ≤ r := by rw [← e4]; exact Int.emod_nonneg _ (by omega)
  have r1 : r < d := by rw [← e4]; exact Int.emod_lt_of_pos _ (by omega)
  have q0 : 0 ≤ q := by rw [← e3]; exact Int.ediv_nonneg (by omega) (by omega)
  have q1 : q < 18446744073709551616 := by rw [← e3]; exact Int.ediv_lt_of_lt_mul (by omega) (by omega)
  have hq0 : 0 ≤ hq := by rw [← e1]; exact Int.ediv_nonneg h0 (by omega)
  have hq1 : hq ≤ h := by rw [← e1]; exact Int.ediv_le_self _ h0
  refine ⟨hq0, hq1, hr0, hr1, q0, q1, r0, r1, ?_⟩
  rw [e1, e2] at a
  rw [e3, e4] at b
  have hp2 : p = d * (hq * 18446744073709551616 + q) + r := by
    rw [← hp]
    have : d * (hq * 18446744073709551616 + q) = d * hq * 18446744073709551616 + d * q := by grind
    rw [this]
    omega
  unfold Fx.hup
  rw [hp2]
  generalize hq * 18446744073709551616 + q = k
  have e : 2 * (d * k + r) + d = 2 * d * k + (2 * r + d) := by grind
  rw [e, Int.mul_add_ediv_left _ _ (by omega)]
  congr 1
  by_cases g : d ≤ 2 * r
  · rw [if_pos g]
    have : (2 * r + d) / (2 * d) = 1 := by
      have k1 : (2 * r + d) / (2 * d) < 2 := Int.ediv_lt_of_lt_mul (by omega) (by omega)
      have k2 : 1 ≤ (2 * r + d) / (2 * d) := (Int.le_ediv_iff_mul_le (by omega)).2 (by omega)
      omega
    exact this
  · rw [if_neg g]
    exact Int.ediv_eq_zero_of_lt (by omega) (by omega)
set_option maxHeartbeats 1000000 in
theorem over_w (h l d H L : Int) (h0 : Fx.U64 h) (l0 : Fx.U64 l) (d0 : 1 ≤ d) (d1 : d < 18446744073709551616) (eH : Fx.hup (Fx.wd h l) d / 18446744073709551616 = H) (eL : Fx.hup (Fx.wd h l) d % 18446744073709551616 = L) (hb : Fx.hup (Fx.wd h l) d < 340282366920938463463374607431768211456) (w : World) :
    Calls Try.prog 150 #[.agg #[.int .u64 h, .int .u64 l], .int .u64 d] w fun e w' => e = .returned (.agg #[.int .u64 H, .int .u64 L]) ∧ Below w.heap.size w w' := by
  obtain ⟨hq, e1⟩ : ∃ v, h / d = v := ⟨_, rfl⟩
  obtain ⟨hr, e2⟩ : ∃ v, h % d = v := ⟨_, rfl⟩
  obtain ⟨q, e3⟩ : ∃ v, (hr * 18446744073709551616 + l) / d = v := ⟨_, rfl⟩
  obtain ⟨r, e4⟩ : ∃ v, (hr * 18446744073709551616 + l) % d = v := ⟨_, rfl⟩
  obtain ⟨p1, p2, p3, p4, p5, p6, p7, p8, p9⟩ := over_plain h l d _ hq hr q r h0.1 h0.2 l0.1 l0.2 d0 d1 rfl e1 e2 e3 e4
  unfold Fx.wd at eH eL hb
  rw [p9] at eH eL hb
  have CD := Lib.hid (fun w => Div64_w hr l d q r p3 p4 l0 d1 e3 e4 w)
  have h3 := h0.1
  have h4 := h0.2
  have y2 : ¬ (d = 0) := by omega
  have hq2 : h.tdiv d = hq := by rw [Int.tdiv_eq_ediv_of_nonneg h3, e1]
  have hr2 : h.tmod d = hr := by rw [Int.tmod_eq_emod_of_nonneg h3, e2]
  have wq : IntKind.u64.wrap hq = hq := by rw [IntKind.wrap_u64]; omega
  have wr : IntKind.u64.wrap hr = hr := by rw [IntKind.wrap_u64]; omega
  have wd : IntKind.u64.wrap (d - r) = d - r := by rw [IntKind.wrap_u64]; omega
  clear e3 e4 p9
  by_cases g : d ≤ 2 * r
  · rw [if_pos g] at eH eL hb
    have t1 : d - r ≤ r := by omega
    have CP := Lib.hid (fun w => plus1_w hq q 1 H L p5 (by omega) (by omega) (by omega) w)
    clear eH eL hb g h0 l0
    refine calls_g fun g => ?_
    go_enter Try.func150, Try.ntmps150
    go_wp2_with (with_reducible refine G.any_mark _ ?_; (try generalize Array.size (World.heap (G.w _)) = bk); (try dsimp only [List.set_cons_zero, List.set_cons_succ]); (try clear g); intro g)
    go_region_held3 (G.heldN g [false, true]) (simp [G.heldN, HeldN, go_sem]) (fail)
    ((try simp only [G.drew_eq, G.drewN_eq]); (refine G.any_mark _ ?_; (try generalize Array.size (World.heap (G.w _)) = bk); (try dsimp only [List.set_cons_zero, List.set_cons_succ]); (try clear g); intro g))
    go_wp2_with (with_reducible refine G.any_mark _ ?_; (try generalize Array.size (World.heap (G.w _)) = bk); (try dsimp only [List.set_cons_zero, List.set_cons_succ]); (try clear g); intro g)
    refine (CD.out _).mono ?_; rintro e w1 ⟨rfl, hb⟩; obtain ⟨g1, rfl⟩ := G.call_ex _ hb; clear hb; (try clear g); revert g1; intro g
    go_wp2_with (with_reducible refine G.any_mark _ ?_; (try generalize Array.size (World.heap (G.w _)) = bk); (try dsimp only [List.set_cons_zero, List.set_cons_succ]); (try clear g); intro g)
    refine (CP.out _).mono ?_; rintro e w1 ⟨rfl, hb⟩; obtain ⟨g1, rfl⟩ := G.call_ex _ hb; clear hb; (try clear g); revert g1; intro g
    go_wp2_with (with_reducible refine G.any_mark _ ?_; (try generalize Array.size (World.heap (G.w _)) = bk); (try dsimp only [List.set_cons_zero, List.set_cons_succ]); (try clear g); intro g)
    refine bodyPost_ret (v := .agg #[.int .u64 H, .int .u64 L]) (by simp [results, Try.results150, go_sem]) rfl ⟨rfl, G.below _⟩
  · rw [if_neg g] at eH eL hb
    have t1 : ¬ (d - r ≤ r) := by omega
    have eH' : hq = H := by omega
    have eL' : q = L := by omega
    subst eH' eL'
    clear eH eL hb g h0 l0
    refine calls_g fun g => ?_
    go_enter Try.func150, Try.ntmps150
    go_wp2_with (with_reducible refine G.any_mark _ ?_; (try generalize Array.size (World.heap (G.w _)) = bk); (try dsimp only [List.set_cons_zero, List.set_cons_succ]); (try clear g); intro g)
    go_region_held3 (G.heldN g [false, true]) (simp [G.heldN, HeldN, go_sem]) (fail)
    ((try simp only [G.drew_eq, G.drewN_eq]); (refine G.any_mark _ ?_; (try generalize Array.size (World.heap (G.w _)) = bk); (try dsimp only [List.set_cons_zero, List.set_cons_succ]); (try clear g); intro g))
    go_wp2_with (with_reducible refine G.any_mark _ ?_; (try generalize Array.size (World.heap (G.w _)) = bk); (try dsimp only [List.set_cons_zero, List.set_cons_succ]); (try clear g); intro g)
    refine (CD.out _).mono ?_; rintro e w1 ⟨rfl, hb⟩; obtain ⟨g1, rfl⟩ := G.call_ex _ hb; clear hb; (try clear g); revert g1; intro g
    go_wp2_with (with_reducible refine G.any_mark _ ?_; (try generalize Array.size (World.heap (G.w _)) = bk); (try dsimp only [List.set_cons_zero, List.set_cons_succ]); (try clear g); intro g)
    refine bodyPost_ret (v := .agg #[.int .u64 hq, .int .u64 q]) (by simp [results, Try.results150, go_sem]) rfl ⟨rfl, G.below _⟩
end Go.Proofs.Ytgehbebjgmeccaa
