/- Contracts of functions of the program and of its reference, out of walks. Their conditions stand ahead of each. -/
import Derived.Test.YtgehbebjgmeccaaW50
import Derived.Test.YtgehbebjgmeccaaP4
import Derived.Test.YtgehbebjgmeccaaShelf
set_option linter.unusedVariables false
set_option linter.unusedSimpArgs false
namespace Go.Proofs.Ytgehbebjgmeccaa
open Go.RowKit GW
theorem Div64_0 (lo y q r : Int) (l0 : Fx.U64 lo) (y0 : 1 ≤ y) (y1 : y < 18446744073709551616) (hq : lo / y = q) (hr : lo % y = r) (w : World) :
    Calls Try.prog 178 #[.int .u64 0, .int .u64 lo, .int .u64 y] w fun e w' => e = .returned (.tuple #[.int .u64 q, .int .u64 r]) ∧ Below w.heap.size w w' := by
  have t0 : (y == 0) = false := by simp; omega
  have t1 : ¬ (y ≤ 0) := by omega
  unfold Fx.U64 at l0
  obtain ⟨l1, l2⟩ := l0
  have y2 : ¬ (y = 0) := by omega
  have q0 : 0 ≤ q := by rw [← hq]; exact Int.ediv_nonneg l1 (by omega)
  have q1 : q ≤ lo := by rw [← hq]; exact Int.ediv_le_self _ l1
  have r0 : 0 ≤ r := by rw [← hr]; exact Int.emod_nonneg _ y2
  have r1 : r < y := by rw [← hr]; exact Int.emod_lt_of_pos _ (by omega)
  have hq2 : lo.tdiv y = q := by rw [Int.tdiv_eq_ediv_of_nonneg l1, hq]
  have hr2 : lo.tmod y = r := by rw [Int.tmod_eq_emod_of_nonneg l1, hr]
  have wq : IntKind.u64.wrap q = q := by rw [IntKind.wrap_u64]; omega
  have wr : IntKind.u64.wrap r = r := by rw [IntKind.wrap_u64]; omega
  refine calls_g fun g => ?_
  go_enter Try.func178, Try.ntmps178
  go_wp2_with (with_reducible refine G.any_mark _ ?_; (try generalize Array.size (World.heap (G.w _)) = bk); (try dsimp only [List.set_cons_zero, List.set_cons_succ]); (try clear g); intro g)
  go_region_held3 (fun _ => True) (trivial) (fail)
  all_goals
    go_wp2_with (with_reducible refine G.any_mark _ ?_; (try generalize Array.size (World.heap (G.w _)) = bk); (try dsimp only [List.set_cons_zero, List.set_cons_succ]); (try clear g); intro g)
    go_ret2
    exact ⟨rfl, (G.dr g 1).below⟩
set_option maxRecDepth 100000 in
set_option maxHeartbeats 4000000 in
theorem Div64_s (hi lo y q r : Int) (h0 : 1 ≤ hi) (h1 : hi < y) (l0 : Fx.U64 lo) (y1 : y < 18446744073709551616) (hq : (hi * 18446744073709551616 + lo) / y = q) (hr : (hi * 18446744073709551616 + lo) % y = r) (w : World) :
    Calls Try.prog 178 #[.int .u64 hi, .int .u64 lo, .int .u64 y] w fun e w' => e = .returned (.tuple #[.int .u64 q, .int .u64 r]) ∧ Below w.heap.size w w' := by
  have t0 : (y == 0) = false := by simp; omega
  have t1 : ¬ (y ≤ hi) := by omega
  have t2 : (hi == 0) = false := by simp; omega
  obtain ⟨s, s1, s2, s3, s4⟩ := Fx.norm_shift y (by omega) y1
  unfold Fx.U64 at l0
  obtain ⟨l1, l2⟩ := l0
  obtain ⟨Y, a, b, U, V, u1, u0, e1, e1', e2, e3, e4, e5, e6, e7, gv, hYa, hV, k0, k1, hfin⟩ := Fx.div_setup hi lo y s s1 h0 h1 l1 l2 s3 s4
  obtain ⟨Q, P, R, f1, f1', f2, f3, f4, est⟩ := Fx.loop_setup gv
  obtain ⟨q1, hq1⟩ : ∃ v, (U * 4294967296 + u1) / (a * 4294967296 + b) = v := ⟨_, rfl⟩
  obtain ⟨A1, A2, A3, U2, g1, g2, g3, g4, gv2, hU2, q10, q11⟩ := Fx.next_setup gv hYa hq1 k0 k1
  obtain ⟨Q2, P2, R2, i1, i1', i2, i3, i4, est2⟩ := Fx.loop_setup gv2
  obtain ⟨q0, hq0⟩ : ∃ v, (U2 * 4294967296 + u0) / (a * 4294967296 + b) = v := ⟨_, rfl⟩
  rw [e1] at s3 s4
  obtain ⟨B1, C1, C2, C3, C4, j1, j2, j3, j4, j5, j6, j7, j8⟩ := Fx.fin_setup hi lo y Y U V u1 u0 a b q1 q0 U2 q r s hfin e1 hYa hV k0 k1 (by omega) s4 hU2 gv2 hq0 q10 q11 hq hr
  have S2 := Lib.hid s2
  have s0 : (0 : Int) ≤ s := by omega
  have s63 : (s : Int) ≤ 63 := by omega
  have HG := Lib.hid gv
  have HG2 := Lib.hid gv2
  have HE := Lib.hid est
  have HE2 := Lib.hid est2
  have HQ1 := Lib.hid hq1
  have HQ0 := Lib.hid hq0
  have a0 := gv.a0
  have a1 := gv.a1
  have ay0 : ¬ (a = 0) := by omega
  clear s2 hq hr hfin hYa hV gv gv2 est est2 hq1 hq0 hU2 s3 s1
  refine calls_g fun g => ?_
  go_enter Try.func178, Try.ntmps178
  go_wp2_with (with_reducible refine G.any_mark _ ?_; (try generalize Array.size (World.heap (G.w _)) = bk); (try dsimp only [List.set_cons_zero, List.set_cons_succ]); (try clear g); intro g)
  refine (Try.bits_LeadingZeros64 y _ (by omega) (by omega)).mono ?_
  rw [S2.out]
  rintro e w1 ⟨rfl, rfl⟩
  go_wp2_with (with_reducible refine G.any_mark _ ?_; (try generalize Array.size (World.heap (G.w _)) = bk); (try dsimp only [List.set_cons_zero, List.set_cons_succ]); (try clear g); intro g)
  go_loop [15, 16] (fun p t => ∃ x z : Int, p = .int .u64 x ∧ t = .int .u64 z ∧ Fx.Est U u1 a b x z) (fun p _ => (intOf p).toNat)
  case atStart => exact ⟨Q, R, rfl, rfl, HE.out⟩
  case round =>
    obtain ⟨x, z, rfl, rfl, hx⟩ := hrel
    obtain ⟨X, Z, T, x1, x2, x3, x4, x5, x6⟩ := Fx.step_setup HG.out hx
    have z0 := hx.r0
    have z1 := hx.r1
    have xx0 := hx.q0
    have HX := Lib.hid hx
    by_cases hc : 4294967296 ≤ x ∨ 4294967296 * z + u1 < x * b
    · obtain ⟨m1, m2, m3, m4⟩ := Fx.est_more HG.out hx hc
      have x5' := x5 m2
      have M3 := Lib.hid m3
      have M4 := Lib.hid m4
      have hcc : ¬ (4294967296 ≤ x) → T < X := fun h => x4.2 (by omega)
      have HC := Lib.hid hcc
      clear hx x4 x5 m1 m3 m4 hc hcc
      by_cases hbr : 4294967296 ≤ z + a
      · have hxq := M4.out hbr
        rw [HQ1.out] at hxq
        have x5'' : IntKind.u64.wrap (x - 1) = q1 := x5'.trans hxq
        clear hxq x5'
        by_cases hcx : 4294967296 ≤ x
        · clear HC
          go_wp2_with (with_reducible refine G.any_mark _ ?_; (try generalize Array.size (World.heap (G.w _)) = bk); (try dsimp only [List.set_cons_zero, List.set_cons_succ]); (try clear g); intro g)
          clear x1 x2 x3 x5'' x6 z0 z1 xx0 HX hbr hcx
          go_loop [18, 16] (fun p t => ∃ x z : Int, p = .int .u64 x ∧ t = .int .u64 z ∧ Fx.Est U2 u0 a b x z) (fun p _ => (intOf p).toNat)
          case atStart => exact ⟨Q2, R2, rfl, rfl, HE2.out⟩
          case round =>
            obtain ⟨xx, zz, rfl, rfl, hx⟩ := hrel
            obtain ⟨X, Z, T, x1, x2, x3, x4, x5, x6⟩ := Fx.step_setup HG2.out hx
            have z0 := hx.r0
            have z1 := hx.r1
            have xx0 := hx.q0
            have HX := Lib.hid hx
            by_cases hc : 4294967296 ≤ xx ∨ 4294967296 * zz + u0 < xx * b
            · obtain ⟨m1, m2, m3, m4⟩ := Fx.est_more HG2.out hx hc
              have x5' := x5 m2
              have M3 := Lib.hid m3
              have M4 := Lib.hid m4
              have hcc : ¬ (4294967296 ≤ xx) → T < X := fun h => x4.2 (by omega)
              have HC := Lib.hid hcc
              clear hx x4 x5 m1 m3 m4 hc hcc
              by_cases hbr : 4294967296 ≤ zz + a
              · have hxq := M4.out hbr
                rw [HQ0.out] at hxq
                have x5'' : IntKind.u64.wrap (xx - 1) = q0 := x5'.trans hxq
                clear hxq x5'
                by_cases hcx : 4294967296 ≤ xx
                · clear HC
                  go_wp2_with (with_reducible refine G.any_mark _ ?_; (try generalize Array.size (World.heap (G.w _)) = bk); (try dsimp only [List.set_cons_zero, List.set_cons_succ]); (try clear g); intro g)
                  clear x1 x2 x3 x5'' x6 z0 z1 xx0 HX hbr hcx
                  go_ret2
                  exact ⟨rfl, G.below _⟩
                · have hTX := HC.out hcx
                  clear HC
                  go_wp2_with (with_reducible refine G.any_mark _ ?_; (try generalize Array.size (World.heap (G.w _)) = bk); (try dsimp only [List.set_cons_zero, List.set_cons_succ]); (try clear g); intro g)
                  clear x1 x2 x3 x5'' x6 z0 z1 xx0 HX hbr hcx hTX
                  go_ret2
                  exact ⟨rfl, G.below _⟩
              · have M3' := Lib.hid (M3.out (by omega))
                by_cases hcx : 4294967296 ≤ xx
                · clear HC
                  go_wp2_with (with_reducible refine G.any_mark _ ?_; (try generalize Array.size (World.heap (G.w _)) = bk); (try dsimp only [List.set_cons_zero, List.set_cons_succ]); (try clear g); intro g)
                  exact ⟨⟨xx - 1, zz + a, rfl, rfl, M3'.out⟩, by simp [intOf]; omega⟩
                · have hTX := HC.out hcx
                  clear HC
                  go_wp2_with (with_reducible refine G.any_mark _ ?_; (try generalize Array.size (World.heap (G.w _)) = bk); (try dsimp only [List.set_cons_zero, List.set_cons_succ]); (try clear g); intro g)
                  exact ⟨⟨xx - 1, zz + a, rfl, rfl, M3'.out⟩, by simp [intOf]; omega⟩
            · have hcx : ¬ 4294967296 ≤ xx := fun h => hc (.inl h)
              have hTX : ¬ T < X := fun h => hc (.inr (x4.1 h))
              have hd := Fx.est_done HG2.out hx hcx (fun h => hc (.inr h))
              rw [HQ0.out] at hd
              clear hx x4 x5 hc HX
              subst hd
              go_wp2_with (with_reducible refine G.any_mark _ ?_; (try generalize Array.size (World.heap (G.w _)) = bk); (try dsimp only [List.set_cons_zero, List.set_cons_succ]); (try clear g); intro g)
              clear x1 x2 x3 x6 z0 z1 hcx hTX
              go_ret2
              exact ⟨rfl, G.below _⟩
        · have hTX := HC.out hcx
          clear HC
          go_wp2_with (with_reducible refine G.any_mark _ ?_; (try generalize Array.size (World.heap (G.w _)) = bk); (try dsimp only [List.set_cons_zero, List.set_cons_succ]); (try clear g); intro g)
          clear x1 x2 x3 x5'' x6 z0 z1 xx0 HX hbr hcx hTX
          go_loop [18, 16] (fun p t => ∃ x z : Int, p = .int .u64 x ∧ t = .int .u64 z ∧ Fx.Est U2 u0 a b x z) (fun p _ => (intOf p).toNat)
          case atStart => exact ⟨Q2, R2, rfl, rfl, HE2.out⟩
          case round =>
            obtain ⟨xx, zz, rfl, rfl, hx⟩ := hrel
            obtain ⟨X, Z, T, x1, x2, x3, x4, x5, x6⟩ := Fx.step_setup HG2.out hx
            have z0 := hx.r0
            have z1 := hx.r1
            have xx0 := hx.q0
            have HX := Lib.hid hx
            by_cases hc : 4294967296 ≤ xx ∨ 4294967296 * zz + u0 < xx * b
            · obtain ⟨m1, m2, m3, m4⟩ := Fx.est_more HG2.out hx hc
              have x5' := x5 m2
              have M3 := Lib.hid m3
              have M4 := Lib.hid m4
              have hcc : ¬ (4294967296 ≤ xx) → T < X := fun h => x4.2 (by omega)
              have HC := Lib.hid hcc
              clear hx x4 x5 m1 m3 m4 hc hcc
              by_cases hbr : 4294967296 ≤ zz + a
              · have hxq := M4.out hbr
                rw [HQ0.out] at hxq
                have x5'' : IntKind.u64.wrap (xx - 1) = q0 := x5'.trans hxq
                clear hxq x5'
                by_cases hcx : 4294967296 ≤ xx
                · clear HC
                  go_wp2_with (with_reducible refine G.any_mark _ ?_; (try generalize Array.size (World.heap (G.w _)) = bk); (try dsimp only [List.set_cons_zero, List.set_cons_succ]); (try clear g); intro g)
                  clear x1 x2 x3 x5'' x6 z0 z1 xx0 HX hbr hcx
                  go_ret2
                  exact ⟨rfl, G.below _⟩
                · have hTX := HC.out hcx
                  clear HC
                  go_wp2_with (with_reducible refine G.any_mark _ ?_; (try generalize Array.size (World.heap (G.w _)) = bk); (try dsimp only [List.set_cons_zero, List.set_cons_succ]); (try clear g); intro g)
                  clear x1 x2 x3 x5'' x6 z0 z1 xx0 HX hbr hcx hTX
                  go_ret2
                  exact ⟨rfl, G.below _⟩
              · have M3' := Lib.hid (M3.out (by omega))
                by_cases hcx : 4294967296 ≤ xx
                · clear HC
                  go_wp2_with (with_reducible refine G.any_mark _ ?_; (try generalize Array.size (World.heap (G.w _)) = bk); (try dsimp only [List.set_cons_zero, List.set_cons_succ]); (try clear g); intro g)
                  exact ⟨⟨xx - 1, zz + a, rfl, rfl, M3'.out⟩, by simp [intOf]; omega⟩
                · have hTX := HC.out hcx
                  clear HC
                  go_wp2_with (with_reducible refine G.any_mark _ ?_; (try generalize Array.size (World.heap (G.w _)) = bk); (try dsimp only [List.set_cons_zero, List.set_cons_succ]); (try clear g); intro g)
                  exact ⟨⟨xx - 1, zz + a, rfl, rfl, M3'.out⟩, by simp [intOf]; omega⟩
            · have hcx : ¬ 4294967296 ≤ xx := fun h => hc (.inl h)
              have hTX : ¬ T < X := fun h => hc (.inr (x4.1 h))
              have hd := Fx.est_done HG2.out hx hcx (fun h => hc (.inr h))
              rw [HQ0.out] at hd
              clear hx x4 x5 hc HX
              subst hd
              go_wp2_with (with_reducible refine G.any_mark _ ?_; (try generalize Array.size (World.heap (G.w _)) = bk); (try dsimp only [List.set_cons_zero, List.set_cons_succ]); (try clear g); intro g)
              clear x1 x2 x3 x6 z0 z1 hcx hTX
              go_ret2
              exact ⟨rfl, G.below _⟩
      · have M3' := Lib.hid (M3.out (by omega))
        by_cases hcx : 4294967296 ≤ x
        · clear HC
          go_wp2_with (with_reducible refine G.any_mark _ ?_; (try generalize Array.size (World.heap (G.w _)) = bk); (try dsimp only [List.set_cons_zero, List.set_cons_succ]); (try clear g); intro g)
          exact ⟨⟨x - 1, z + a, rfl, rfl, M3'.out⟩, by simp [intOf]; omega⟩
        · have hTX := HC.out hcx
          clear HC
          go_wp2_with (with_reducible refine G.any_mark _ ?_; (try generalize Array.size (World.heap (G.w _)) = bk); (try dsimp only [List.set_cons_zero, List.set_cons_succ]); (try clear g); intro g)
          exact ⟨⟨x - 1, z + a, rfl, rfl, M3'.out⟩, by simp [intOf]; omega⟩
    · have hcx : ¬ 4294967296 ≤ x := fun h => hc (.inl h)
      have hTX : ¬ T < X := fun h => hc (.inr (x4.1 h))
      have hd := Fx.est_done HG.out hx hcx (fun h => hc (.inr h))
      rw [HQ1.out] at hd
      clear hx x4 x5 hc HX
      subst hd
      go_wp2_with (with_reducible refine G.any_mark _ ?_; (try generalize Array.size (World.heap (G.w _)) = bk); (try dsimp only [List.set_cons_zero, List.set_cons_succ]); (try clear g); intro g)
      clear x1 x2 x3 x6 z0 z1 hcx hTX
      go_loop [18, 16] (fun p t => ∃ x z : Int, p = .int .u64 x ∧ t = .int .u64 z ∧ Fx.Est U2 u0 a b x z) (fun p _ => (intOf p).toNat)
      case atStart => exact ⟨Q2, R2, rfl, rfl, HE2.out⟩
      case round =>
        obtain ⟨xx, zz, rfl, rfl, hx⟩ := hrel
        obtain ⟨X, Z, T, x1, x2, x3, x4, x5, x6⟩ := Fx.step_setup HG2.out hx
        have z0 := hx.r0
        have z1 := hx.r1
        have xx0 := hx.q0
        have HX := Lib.hid hx
        by_cases hc : 4294967296 ≤ xx ∨ 4294967296 * zz + u0 < xx * b
        · obtain ⟨m1, m2, m3, m4⟩ := Fx.est_more HG2.out hx hc
          have x5' := x5 m2
          have M3 := Lib.hid m3
          have M4 := Lib.hid m4
          have hcc : ¬ (4294967296 ≤ xx) → T < X := fun h => x4.2 (by omega)
          have HC := Lib.hid hcc
          clear hx x4 x5 m1 m3 m4 hc hcc
          by_cases hbr : 4294967296 ≤ zz + a
          · have hxq := M4.out hbr
            rw [HQ0.out] at hxq
            have x5'' : IntKind.u64.wrap (xx - 1) = q0 := x5'.trans hxq
            clear hxq x5'
            by_cases hcx : 4294967296 ≤ xx
            · clear HC
              go_wp2_with (with_reducible refine G.any_mark _ ?_; (try generalize Array.size (World.heap (G.w _)) = bk); (try dsimp only [List.set_cons_zero, List.set_cons_succ]); (try clear g); intro g)
              clear x1 x2 x3 x5'' x6 z0 z1 xx0 HX hbr hcx
              go_ret2
              exact ⟨rfl, G.below _⟩
            · have hTX := HC.out hcx
              clear HC
              go_wp2_with (with_reducible refine G.any_mark _ ?_; (try generalize Array.size (World.heap (G.w _)) = bk); (try dsimp only [List.set_cons_zero, List.set_cons_succ]); (try clear g); intro g)
              clear x1 x2 x3 x5'' x6 z0 z1 xx0 HX hbr hcx hTX
              go_ret2
              exact ⟨rfl, G.below _⟩
          · have M3' := Lib.hid (M3.out (by omega))
            by_cases hcx : 4294967296 ≤ xx
            · clear HC
              go_wp2_with (with_reducible refine G.any_mark _ ?_; (try generalize Array.size (World.heap (G.w _)) = bk); (try dsimp only [List.set_cons_zero, List.set_cons_succ]); (try clear g); intro g)
              exact ⟨⟨xx - 1, zz + a, rfl, rfl, M3'.out⟩, by simp [intOf]; omega⟩
            · have hTX := HC.out hcx
              clear HC
              go_wp2_with (with_reducible refine G.any_mark _ ?_; (try generalize Array.size (World.heap (G.w _)) = bk); (try dsimp only [List.set_cons_zero, List.set_cons_succ]); (try clear g); intro g)
              exact ⟨⟨xx - 1, zz + a, rfl, rfl, M3'.out⟩, by simp [intOf]; omega⟩
        · have hcx : ¬ 4294967296 ≤ xx := fun h => hc (.inl h)
          have hTX : ¬ T < X := fun h => hc (.inr (x4.1 h))
          have hd := Fx.est_done HG2.out hx hcx (fun h => hc (.inr h))
          rw [HQ0.out] at hd
          clear hx x4 x5 hc HX
          subst hd
          go_wp2_with (with_reducible refine G.any_mark _ ?_; (try generalize Array.size (World.heap (G.w _)) = bk); (try dsimp only [List.set_cons_zero, List.set_cons_succ]); (try clear g); intro g)
          clear x1 x2 x3 x6 z0 z1 hcx hTX
          go_ret2
          exact ⟨rfl, G.below _⟩
end Go.Proofs.Ytgehbebjgmeccaa
