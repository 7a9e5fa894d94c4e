/- Contracts of functions of the program and of its reference, out of walks. Their conditions stand ahead of each. -/
import Derived.Test.YtgehbebjgmeccaaW44
set_option linter.unusedVariables false
set_option linter.unusedSimpArgs false
namespace Go.Proofs.Ytgehbebjgmeccaa
open Go.RowKit GW
theorem sm_sq {x y : Int} (h : Sm x y) : Fx.R64 x ∧ Fx.R64 y ∧ Fx.in128 (x * x + y * y + 0 * 0) ∧ Fx.in128 (x * x) ∧ Fx.in128 (y * y) ∧ x * x + y * y + 0 * 0 = x * x + y * y := by
  unfold Sm at h
  have hx : Fx.R64 x := by unfold Fx.R64; omega
  have hy : Fx.R64 y := by unfold Fx.R64; omega
  have a : x * x ≤ 4951760157141521099596496896 ∧ 0 ≤ x * x := by
    obtain ⟨a, b⟩ := mulbd x x 70368744177664 70368744177664 (by omega) (by omega) (by omega) (by omega)
    exact ⟨by omega, (Fx.sq_in x hx).1⟩
  have b : y * y ≤ 4951760157141521099596496896 ∧ 0 ≤ y * y := by
    obtain ⟨a, b⟩ := mulbd y y 70368744177664 70368744177664 (by omega) (by omega) (by omega) (by omega)
    exact ⟨by omega, (Fx.sq_in y hy).1⟩
  refine ⟨hx, hy, ?_, ?_, ?_, by omega⟩ <;> unfold Fx.in128 <;> omega
open Classical in
noncomputable def pwV (x y : Int) : Int := if Sm x y then Fx.nwV (x * x + y * y) else 0
open Classical in
noncomputable def pwE (x y : Int) : Int := if Sm x y then Fx.nwE (x * x + y * y) else 2
theorem pw_yes {x y : Int} (h : Sm x y) : pwV x y = Fx.nwV (x * x + y * y) ∧ pwE x y = Fx.nwE (x * x + y * y) := by unfold pwV pwE; rw [if_pos h, if_pos h]; exact ⟨rfl, rfl⟩
theorem pw_no {x y : Int} (h : ¬ Sm x y) : pwV x y = 0 ∧ pwE x y = 2 := by unfold pwV pwE; rw [if_neg h, if_neg h]; exact ⟨rfl, rfl⟩
theorem Norm_w (x y z s A B E : Int) (hx : Fx.R64 x) (hy : Fx.R64 y) (hz : Fx.R64 z) (hs : x * x + y * y + z * z = s) (hA : Fx.ovH s = A) (hB : Fx.ovL s = B) (hE : Fx.ovE s = E) (w : World) :
    Calls Try.prog 103 #[.agg #[.int .i64 x, .int .i64 y, .int .i64 z]] w fun e w' =>
      e = .returned (.tuple #[.agg #[.int .i64 A, .int .u64 B], .int .i64 E]) ∧ Below w.heap.size w w' := by
  subst hA; subst hB; subst hE; subst hs; exact Norm_any x y z hx hy hz w
theorem Narrow_w (a b s V E : Int) (h1 : Fx.R64 a) (h2 : Fx.U64 b) (hs : Fx.wd a b = s) (hV : Fx.nwV s = V) (hE : Fx.nwE s = E) (w : World) :
    Calls Try.prog 98 #[.agg #[.int .i64 a, .int .u64 b]] w fun e w' => e = .returned (.tuple #[.int .i64 V, .int .i64 E]) ∧ Below w.heap.size w w' := by
  subst hV; subst hE; subst hs; exact Narrow_any a b h1 h2 w
theorem rNarrow_w (a b s V E : Int) (h1 : Fx.R64 a) (h2 : Fx.U64 b) (hs : Fx.wd a b = s) (hV : Fx.nwV s = V) (hE : Fx.nwE s = E) (w : World) :
    Calls Try.prog 102 #[.agg #[.int .i64 a, .int .u64 b]] w fun e w' => e = .returned (.tuple #[.int .i64 V, .int .i64 E]) ∧ Below w.heap.size w w' := by
  subst hV; subst hE; subst hs; exact rNarrow_any a b h1 h2 w
set_option maxHeartbeats 1000000 in
theorem Power_any (x y : Int) (w : World) :
    Calls Try.prog 78 #[.agg #[.int .i64 x, .int .i64 y]] w fun e w' => e = .returned (.tuple #[.int .i64 (pwV x y), .int .i64 (pwE x y)]) ∧ Below w.heap.size w w' := by
  by_cases hs : Sm x y
  · obtain ⟨hx, hy, hin, -, -, e0⟩ := sm_sq hs
    rw [(pw_yes hs).1, (pw_yes hs).2]
    rw [e0] at hin
    have ov := Fx.ov_w hin
    generalize hA : Fx.ovH (x * x + y * y) = A at *
    generalize hB : Fx.ovL (x * x + y * y) = B at *
    generalize hV : Fx.nwV (x * x + y * y) = V at *
    generalize hE : Fx.nwE (x * x + y * y) = E at *
    have OV := Lib.hid ov
    have HA := Lib.hid hA
    have HB := Lib.hid hB
    have HV := Lib.hid hV
    have HE := Lib.hid hE
    have HX := Lib.hid hx
    have HY := Lib.hid hy
    have HS := Lib.hid hs
    have E0 := Lib.hid e0
    clear ov hA hB hV hE hx hy hs hin e0
    refine calls_g fun g => ?_
    go_enter Try.func78, Try.ntmps78
    go_wp2_with (with_reducible refine G.any_mark _ ?_; (try generalize Array.size (World.heap (G.w _)) = bk); (try dsimp only [List.set_cons_zero, List.set_cons_succ]); (try clear g); intro g)
    refine (small_yes x y ⟨HS.out.1, HS.out.2.1⟩ HS.out.2.2 _).mono ?_; rintro e w1 ⟨rfl, hb⟩; obtain ⟨g1, rfl⟩ := G.call_ex _ hb; clear hb; (try clear g); revert g1; intro g
    go_wp2_with (with_reducible refine G.any_mark _ ?_; (try generalize Array.size (World.heap (G.w _)) = bk); (try dsimp only [List.set_cons_zero, List.set_cons_succ]); (try clear g); intro g)
    refine (Norm_w x y 0 _ A B 0 HX.out HY.out (by unfold Fx.R64; omega) E0.out HA.out HB.out OV.out.2.2.2 _).mono ?_; rintro e w1 ⟨rfl, hb⟩; obtain ⟨g1, rfl⟩ := G.call_ex _ hb; clear hb; (try clear g); revert g1; intro g
    go_wp2_with (with_reducible refine G.any_mark _ ?_; (try generalize Array.size (World.heap (G.w _)) = bk); (try dsimp only [List.set_cons_zero, List.set_cons_succ]); (try clear g); intro g)
    refine (Narrow_w A B _ V E OV.out.1 OV.out.2.1 OV.out.2.2.1 HV.out HE.out _).mono ?_; rintro e w1 ⟨rfl, hb⟩; obtain ⟨g1, rfl⟩ := G.call_ex _ hb; clear hb; (try clear g); revert g1; intro g
    go_wp2_with (with_reducible refine G.any_mark _ ?_; (try generalize Array.size (World.heap (G.w _)) = bk); (try dsimp only [List.set_cons_zero, List.set_cons_succ]); (try clear g); intro g)
    go_ret2
    exact ⟨rfl, G.below _⟩
  · rw [(pw_no hs).1, (pw_no hs).2]
    have HS := Lib.hid hs
    clear hs
    refine calls_g fun g => ?_
    go_enter Try.func78, Try.ntmps78
    go_wp2_with (with_reducible refine G.any_mark _ ?_; (try generalize Array.size (World.heap (G.w _)) = bk); (try dsimp only [List.set_cons_zero, List.set_cons_succ]); (try clear g); intro g)
    refine (small_no x y HS.out _).mono ?_; rintro e w1 ⟨rfl, hb⟩; obtain ⟨g1, rfl⟩ := G.call_ex _ hb; clear hb; (try clear g); revert g1; intro g
    go_wp2_with (with_reducible refine G.any_mark _ ?_; (try generalize Array.size (World.heap (G.w _)) = bk); (try dsimp only [List.set_cons_zero, List.set_cons_succ]); (try clear g); intro g)
    go_ret2
    exact ⟨rfl, G.below _⟩
set_option maxHeartbeats 1000000 in
theorem rPower_any (x y : Int) (w : World) :
    Calls Try.prog 79 #[.agg #[.int .i64 x, .int .i64 y]] w fun e w' => e = .returned (.tuple #[.int .i64 (pwV x y), .int .i64 (pwE x y)]) ∧ Below w.heap.size w w' := by
  by_cases hs : Sm x y
  · obtain ⟨hx, hy, hin, a1, a2, e0⟩ := sm_sq hs
    rw [(pw_yes hs).1, (pw_yes hs).2]
    rw [e0] at hin
    have ov := Fx.ov_w hin
    have R1 := Lib.hid (Fx.dm_rng a1)
    have R2 := Lib.hid (Fx.dm_rng a2)
    have D1 := Lib.hid (Fx.wd_dm (x * x))
    have D2 := Lib.hid (Fx.wd_dm (y * y))
    generalize h1 : x * x / 18446744073709551616 = H1 at *
    generalize k1 : x * x % 18446744073709551616 = L1 at *
    generalize h2 : y * y / 18446744073709551616 = H2 at *
    generalize k2 : y * y % 18446744073709551616 = L2 at *
    have E1 := Lib.hid h1
    have F1 := Lib.hid k1
    have E2 := Lib.hid h2
    have F2 := Lib.hid k2
    generalize hA : Fx.ovH (x * x + y * y) = A at *
    generalize hB : Fx.ovL (x * x + y * y) = B at *
    generalize hV : Fx.nwV (x * x + y * y) = V at *
    generalize hE : Fx.nwE (x * x + y * y) = E at *
    have OV := Lib.hid ov
    have HA := Lib.hid hA
    have HB := Lib.hid hB
    have HV := Lib.hid hV
    have HE := Lib.hid hE
    have HX := Lib.hid hx
    have HY := Lib.hid hy
    have HS := Lib.hid hs
    clear ov hA hB hV hE hx hy hs hin e0 h1 k1 h2 k2 a1 a2
    refine calls_g fun g => ?_
    go_enter Try.func79, Try.ntmps79
    go_wp2_with (with_reducible refine G.any_mark _ ?_; (try generalize Array.size (World.heap (G.w _)) = bk); (try dsimp only [List.set_cons_zero, List.set_cons_succ]); (try clear g); intro g)
    refine (rsmall_yes x y ⟨HS.out.1, HS.out.2.1⟩ HS.out.2.2 _).mono ?_; rintro e w1 ⟨rfl, hb⟩; obtain ⟨g1, rfl⟩ := G.call_ex _ hb; clear hb; (try clear g); revert g1; intro g
    go_wp2_with (with_reducible refine G.any_mark _ ?_; (try generalize Array.size (World.heap (G.w _)) = bk); (try dsimp only [List.set_cons_zero, List.set_cons_succ]); (try clear g); intro g)
    go_region_held3 (G.held g) (simp [G.held, HeldL, go_sem]) (first | (go_at_call 56; (first | (with_reducible refine (rprod_w x x H1 L1 HX.out HX.out E1.out F1.out _).mono ?_) | (with_reducible refine (rprod_w y y H2 L2 HY.out HY.out E2.out F2.out _).mono ?_)); rintro e w1 ⟨rfl, hb⟩; obtain ⟨g1, rfl⟩ := G.call_ex _ hb; clear hb; (try clear g); revert g1; intro g) | (go_at_call 100; refine (rPlus_w H1 L1 H2 L2 A B 0 _ R1.out.1 R1.out.2 R2.out.1 R2.out.2 (by rw [D1.out, D2.out]) HA.out HB.out OV.out.2.2.2 _).mono ?_; rintro e w1 ⟨rfl, hb⟩; obtain ⟨g1, rfl⟩ := G.call_ex _ hb; clear hb; (try clear g); revert g1; intro g))
    all_goals
      (refine G.any_mark _ ?_; (try generalize Array.size (World.heap (G.w _)) = bk); (try dsimp only [List.set_cons_zero, List.set_cons_succ]); (try clear g); intro g)
      go_wp2_with (with_reducible refine G.any_mark _ ?_; (try generalize Array.size (World.heap (G.w _)) = bk); (try dsimp only [List.set_cons_zero, List.set_cons_succ]); (try clear g); intro g)
      refine (rNarrow_w A B _ V E OV.out.1 OV.out.2.1 OV.out.2.2.1 HV.out HE.out _).mono ?_; rintro e w1 ⟨rfl, hb⟩; obtain ⟨g1, rfl⟩ := G.call_ex _ hb; clear hb; (try clear g); revert g1; intro g
      go_wp2_with (with_reducible refine G.any_mark _ ?_; (try generalize Array.size (World.heap (G.w _)) = bk); (try dsimp only [List.set_cons_zero, List.set_cons_succ]); (try clear g); intro g)
      go_ret2
      exact ⟨rfl, G.below _⟩
  · rw [(pw_no hs).1, (pw_no hs).2]
    have HS := Lib.hid hs
    clear hs
    refine calls_g fun g => ?_
    go_enter Try.func79, Try.ntmps79
    go_wp2_with (with_reducible refine G.any_mark _ ?_; (try generalize Array.size (World.heap (G.w _)) = bk); (try dsimp only [List.set_cons_zero, List.set_cons_succ]); (try clear g); intro g)
    refine (rsmall_no x y HS.out _).mono ?_; rintro e w1 ⟨rfl, hb⟩; obtain ⟨g1, rfl⟩ := G.call_ex _ hb; clear hb; (try clear g); revert g1; intro g
    go_wp2_with (with_reducible refine G.any_mark _ ?_; (try generalize Array.size (World.heap (G.w _)) = bk); (try dsimp only [List.set_cons_zero, List.set_cons_succ]); (try clear g); intro g)
    go_ret2
    exact ⟨rfl, G.below _⟩
theorem Sector_any (x y : Int) (w : World) :
    Calls Try.prog 58 #[.agg #[.int .i64 x, .int .i64 y]] w fun e w' => e = .returned (.tuple #[.int .i64 (smV x y (Ang.secF x y)), .int .i64 (smE x y)]) ∧ Below w.heap.size w w' := by
  by_cases k : Sm x y
  · rw [smV_yes k, smE_yes k]; exact Sector_yes x y ⟨k.1, k.2.1⟩ k.2.2 w
  · rw [smV_no k, smE_no k]; exact Sector_no x y k w
theorem rSector_any (x y : Int) (w : World) :
    Calls Try.prog 76 #[.agg #[.int .i64 x, .int .i64 y]] w fun e w' => e = .returned (.tuple #[.int .i64 (smV x y (Ang.secF x y)), .int .i64 (smE x y)]) ∧ Below w.heap.size w w' := by
  by_cases k : Sm x y
  · rw [smV_yes k, smE_yes k]; exact rSector_yes x y ⟨k.1, k.2.1⟩ k.2.2 w
  · rw [smV_no k, smE_no k]; exact rSector_no x y k w
theorem Fine_any (x y : Int) (w : World) :
    Calls Try.prog 50 #[.agg #[.int .i64 x, .int .i64 y]] w fun e w' => e = .returned (.tuple #[.int .i64 (smV x y (Ang.fineF x y)), .int .i64 (smE x y)]) ∧ Below w.heap.size w w' := by
  by_cases k : Sm x y
  · rw [smV_yes k, smE_yes k]; exact Fine_yes x y ⟨k.1, k.2.1⟩ k.2.2 w
  · rw [smV_no k, smE_no k]; exact Fine_no x y k w
theorem rFine_any (x y : Int) (w : World) :
    Calls Try.prog 77 #[.agg #[.int .i64 x, .int .i64 y]] w fun e w' => e = .returned (.tuple #[.int .i64 (smV x y (Ang.fineF x y)), .int .i64 (smE x y)]) ∧ Below w.heap.size w w' := by
  by_cases k : Sm x y
  · rw [smV_yes k, smE_yes k]; exact rFine_yes x y ⟨k.1, k.2.1⟩ k.2.2 w
  · rw [smV_no k, smE_no k]; exact rFine_no x y k w
theorem Sector_w (x y V E : Int) (hV : smV x y (Ang.secF x y) = V) (hE : smE x y = E) (w : World) :
    Calls Try.prog 58 #[.agg #[.int .i64 x, .int .i64 y]] w fun e w' => e = .returned (.tuple #[.int .i64 V, .int .i64 E]) ∧ Below w.heap.size w w' := by
  subst hV; subst hE; exact Sector_any x y w
theorem rSector_w (x y V E : Int) (hV : smV x y (Ang.secF x y) = V) (hE : smE x y = E) (w : World) :
    Calls Try.prog 76 #[.agg #[.int .i64 x, .int .i64 y]] w fun e w' => e = .returned (.tuple #[.int .i64 V, .int .i64 E]) ∧ Below w.heap.size w w' := by
  subst hV; subst hE; exact rSector_any x y w
theorem Fine_w (x y V E : Int) (hV : smV x y (Ang.fineF x y) = V) (hE : smE x y = E) (w : World) :
    Calls Try.prog 50 #[.agg #[.int .i64 x, .int .i64 y]] w fun e w' => e = .returned (.tuple #[.int .i64 V, .int .i64 E]) ∧ Below w.heap.size w w' := by
  subst hV; subst hE; exact Fine_any x y w
theorem rFine_w (x y V E : Int) (hV : smV x y (Ang.fineF x y) = V) (hE : smE x y = E) (w : World) :
    Calls Try.prog 77 #[.agg #[.int .i64 x, .int .i64 y]] w fun e w' => e = .returned (.tuple #[.int .i64 V, .int .i64 E]) ∧ Below w.heap.size w w' := by
  subst hV; subst hE; exact rFine_any x y w
theorem Power_w (x y V E : Int) (hV : pwV x y = V) (hE : pwE x y = E) (w : World) :
    Calls Try.prog 78 #[.agg #[.int .i64 x, .int .i64 y]] w fun e w' => e = .returned (.tuple #[.int .i64 V, .int .i64 E]) ∧ Below w.heap.size w w' := by
  subst hV; subst hE; exact Power_any x y w
theorem rPower_w (x y V E : Int) (hV : pwV x y = V) (hE : pwE x y = E) (w : World) :
    Calls Try.prog 79 #[.agg #[.int .i64 x, .int .i64 y]] w fun e w' => e = .returned (.tuple #[.int .i64 V, .int .i64 E]) ∧ Below w.heap.size w w' := by
  subst hV; subst hE; exact rPower_any x y w
set_option maxHeartbeats 1000000 in
theorem samples_walk (x y : Int) (w : World) :
    Calls Try.prog 17 #[.agg #[.int .i64 x, .int .i64 y]] w fun e w' => e = .returned (.bool true) ∧ Below w.heap.size w w' := by
  obtain ⟨V1, h1⟩ : ∃ V, smV x y (Ang.secF x y) = V := ⟨_, rfl⟩
  obtain ⟨V2, h2⟩ : ∃ V, smV x y (Ang.fineF x y) = V := ⟨_, rfl⟩
  obtain ⟨E1, h3⟩ : ∃ V, smE x y = V := ⟨_, rfl⟩
  obtain ⟨V3, h4⟩ : ∃ V, pwV x y = V := ⟨_, rfl⟩
  obtain ⟨E3, h5⟩ : ∃ V, pwE x y = V := ⟨_, rfl⟩
  have H1 := Lib.hid h1
  have H2 := Lib.hid h2
  have H3 := Lib.hid h3
  have H4 := Lib.hid h4
  have H5 := Lib.hid h5
  clear h1 h2 h3 h4 h5
  refine calls_g fun g => ?_
  go_enter Try.func17, Try.ntmps17
  go_wp2_with (with_reducible refine G.any_mark _ ?_; (try generalize Array.size (World.heap (G.w _)) = bk); (try dsimp only [List.set_cons_zero, List.set_cons_succ]); (try clear g); intro g)
  refine (Sector_w x y V1 E1 H1.out H3.out _).mono ?_; rintro e w1 ⟨rfl, hb⟩; obtain ⟨g1, rfl⟩ := G.call_ex _ hb; clear hb; (try clear g); revert g1; intro g
  go_wp2_with (with_reducible refine G.any_mark _ ?_; (try generalize Array.size (World.heap (G.w _)) = bk); (try dsimp only [List.set_cons_zero, List.set_cons_succ]); (try clear g); intro g)
  refine (rSector_w x y V1 E1 H1.out H3.out _).mono ?_; rintro e w1 ⟨rfl, hb⟩; obtain ⟨g1, rfl⟩ := G.call_ex _ hb; clear hb; (try clear g); revert g1; intro g
  go_wp2_with (with_reducible refine G.any_mark _ ?_; (try generalize Array.size (World.heap (G.w _)) = bk); (try dsimp only [List.set_cons_zero, List.set_cons_succ]); (try clear g); intro g)
  refine (Fine_w x y V2 E1 H2.out H3.out _).mono ?_; rintro e w1 ⟨rfl, hb⟩; obtain ⟨g1, rfl⟩ := G.call_ex _ hb; clear hb; (try clear g); revert g1; intro g
  go_wp2_with (with_reducible refine G.any_mark _ ?_; (try generalize Array.size (World.heap (G.w _)) = bk); (try dsimp only [List.set_cons_zero, List.set_cons_succ]); (try clear g); intro g)
  refine (rFine_w x y V2 E1 H2.out H3.out _).mono ?_; rintro e w1 ⟨rfl, hb⟩; obtain ⟨g1, rfl⟩ := G.call_ex _ hb; clear hb; (try clear g); revert g1; intro g
  go_wp2_with (with_reducible refine G.any_mark _ ?_; (try generalize Array.size (World.heap (G.w _)) = bk); (try dsimp only [List.set_cons_zero, List.set_cons_succ]); (try clear g); intro g)
  refine (Power_w x y V3 E3 H4.out H5.out _).mono ?_; rintro e w1 ⟨rfl, hb⟩; obtain ⟨g1, rfl⟩ := G.call_ex _ hb; clear hb; (try clear g); revert g1; intro g
  go_wp2_with (with_reducible refine G.any_mark _ ?_; (try generalize Array.size (World.heap (G.w _)) = bk); (try dsimp only [List.set_cons_zero, List.set_cons_succ]); (try clear g); intro g)
  refine (rPower_w x y V3 E3 H4.out H5.out _).mono ?_; rintro e w1 ⟨rfl, hb⟩; obtain ⟨g1, rfl⟩ := G.call_ex _ hb; clear hb; (try clear g); revert g1; intro g
  go_wp2_with (with_reducible refine G.any_mark _ ?_; (try generalize Array.size (World.heap (G.w _)) = bk); (try dsimp only [List.set_cons_zero, List.set_cons_succ]); (try clear g); intro g)
  refine (lives_any _).mono ?_; rintro e w1 ⟨rfl, hb⟩; obtain ⟨g1, rfl⟩ := G.call_ex _ hb; clear hb; (try clear g); revert g1; intro g
  go_wp2_with (with_reducible refine G.any_mark _ ?_; (try generalize Array.size (World.heap (G.w _)) = bk); (try dsimp only [List.set_cons_zero, List.set_cons_succ]); (try clear g); intro g)
  go_ret
  exact ⟨rfl, G.below _⟩
end Go.Proofs.Ytgehbebjgmeccaa
