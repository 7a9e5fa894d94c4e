/- Plain facts and contracts of functions of the program, out of walks. Their conditions stand ahead of each. -/
import Derived.Test.YtodigegjngnknaaDe29
import Derived.Below
import Derived.BigQuiet
import Derived.Deep.DeepCutAuto
import Derived.Deep.Draws
import Derived.Deep.QuietTactic
import Derived.Deep.RegionHeld3
import Derived.Deep.WholeRow
import Derived.Great.BuildSlice
import Derived.Laws.Bits128
import Derived.Laws.BitsLemmas
import Derived.Laws.Externs
import Derived.Laws.NewBlocks
import Derived.Laws.OwnMore
import Derived.Laws.Pointers
import Derived.Laws.Rows
import Derived.Lib.BitFns
import Derived.Lib.Hide
import Derived.Lib.ItoaNum
import Derived.LoopIn
import Derived.LoopNIn
import Derived.OrdersIn
import Derived.OwnWalkIn
import Derived.RangeFuncBound
import Derived.RangeFuncBox
import Derived.RangeFuncCalls
import Derived.RangeFuncLeaves
import Derived.RangeFuncNested
import Derived.RowKit3
import Derived.Shelf.Abstract
import Derived.Shelf.RegionOpen
import Derived.StillTactics
import Derived.StillTailTactics
import Derived.TacticsInMore
import Derived.Test.YtodigegjngnknaaProg
import Derived.WalkKit
import Derived.WalkLawsBesides
import Derived.WalkSpells
set_option linter.unusedVariables false
set_option linter.unusedSimpArgs false
set_option exponentiation.threshold 10000
namespace Go.Proofs.Ytodigegjngnknaa
open Go.RowKit GW NL Go.Proofs.Ytodigegjngnknaa.X
theorem mul_in {x y : Int} (hx : In 1073741824 x) (hy : In 100000000000 y) : -107374182400000000000 ≤ x * y ∧ x * y ≤ 107374182400000000000 := by
  have h := DI.mul_ab (y := y) (show x ≤ 1073741824 ∧ -1073741824 ≤ x from ⟨hx.2, hx.1⟩)
  have h2 := DI.ab_le hy
  omega
set_option maxRecDepth 20000 in
set_option maxHeartbeats 4000000 in
theorem ralong_yes (X Y Z U V W : Int) (hu : In3 1073741824 X Y Z) (hv : In3 100000000000 U V W) (w : World) :
    Calls Try.prog 29 #[.agg #[.int .i64 X, .int .i64 Y, .int .i64 Z], .agg #[.int .i64 U, .int .i64 V, .int .i64 W]] w fun e w' => e = .returned (.tuple #[.int .i64 (DI.rnd (X * U + Y * V + Z * W)), .int .i64 0]) ∧ Below w.heap.size w w' := by
  refine calls_b fun g => ?_
  have CN := Lib.hid (fun w => rnear_any U V W w)
  rw [decide_eq_true hv] at CN
  have CX := Lib.hid (fun w => rwithin_any X 1073741824 (by decide) (by decide) w)
  have CY := Lib.hid (fun w => rwithin_any Y 1073741824 (by decide) (by decide) w)
  have CZ := Lib.hid (fun w => rwithin_any Z 1073741824 (by decide) (by decide) w)
  rw [decide_eq_true hu.1] at CX
  rw [decide_eq_true hu.2.1] at CY
  rw [decide_eq_true hu.2.2] at CZ
  have b1 := mul_in hu.1 hv.1
  have b2 := mul_in hu.2.1 hv.2.1
  have b3 := mul_in hu.2.2 hv.2.2
  have r64 : ∀ {m x : Int}, In m x → m ≤ 9000000000000000000 → Fx.R64 x := fun h hm => by unfold In at h; unfold Fx.R64; omega
  obtain ⟨P1, hP1⟩ : ∃ P, X * U = P := ⟨_, rfl⟩
  obtain ⟨P2, hP2⟩ : ∃ P, Y * V = P := ⟨_, rfl⟩
  obtain ⟨P3, hP3⟩ : ∃ P, Z * W = P := ⟨_, rfl⟩
  rw [hP1] at b1
  rw [hP2] at b2
  rw [hP3] at b3
  have C1 := Lib.hid (fun w => rprodW X U P1 (r64 hu.1 (by decide)) (r64 hv.1 (by decide)) hP1 w)
  have C2 := Lib.hid (fun w => rprodW Y V P2 (r64 hu.2.1 (by decide)) (r64 hv.2.1 (by decide)) hP2 w)
  have C3 := Lib.hid (fun w => rprodW Z W P3 (r64 hu.2.2 (by decide)) (r64 hv.2.2 (by decide)) hP3 w)
  obtain ⟨Q, hQ⟩ : ∃ Q, P1 + P2 = Q := ⟨_, rfl⟩
  obtain ⟨S, hS⟩ : ∃ S, Q + P3 = S := ⟨_, rfl⟩
  have S1 := Lib.hid (fun w => rplusW P1 P2 Q (by omega) (by omega) hQ w)
  have S2 := Lib.hid (fun w => rplusW Q P3 S (by omega) (by omega) hS w)
  have hSb : -300000000000000000000000 ≤ S ∧ S ≤ 300000000000000000000000 := by omega
  rw [hP1, hP2, hP3, hQ, hS]
  have HS := Lib.hid hSb
  clear hP1 hP2 hP3 hQ hS b1 b2 b3 hu hv hSb r64
  generalize wh P1 = h1 at *
  generalize wl P1 = l1 at *
  generalize wh P2 = h2 at *
  generalize wl P2 = l2 at *
  generalize wh P3 = h3 at *
  generalize wl P3 = l3 at *
  generalize wh Q = hq at *
  generalize wl Q = lq at *
  go_enter Try.func29, Try.ntmps29
  go_wp2_with (with_reducible refine G.any_mark _ ?_; (try generalize Array.size (World.heap (G.w _)) = bk); (try dsimp only [List.set_cons_zero, List.set_cons_succ]); (try clear g); intro g)
  refine (CN.out _).mono ?_
  rintro e w1 ⟨rfl, hb⟩
  obtain ⟨g1, rfl⟩ := G.call_ex _ hb
  clear hb
  (try clear g)
  revert g1
  intro g
  go_wp2_with (with_reducible refine G.any_mark _ ?_; (try generalize Array.size (World.heap (G.w _)) = bk); (try dsimp only [List.set_cons_zero, List.set_cons_succ]); (try clear g); intro g)
  refine (CX.out _).mono ?_
  rintro e w1 ⟨rfl, hb⟩
  obtain ⟨g1, rfl⟩ := G.call_ex _ hb
  clear hb
  (try clear g)
  revert g1
  intro g
  go_wp2_with (with_reducible refine G.any_mark _ ?_; (try generalize Array.size (World.heap (G.w _)) = bk); (try dsimp only [List.set_cons_zero, List.set_cons_succ]); (try clear g); intro g)
  refine (CY.out _).mono ?_
  rintro e w1 ⟨rfl, hb⟩
  obtain ⟨g1, rfl⟩ := G.call_ex _ hb
  clear hb
  (try clear g)
  revert g1
  intro g
  go_wp2_with (with_reducible refine G.any_mark _ ?_; (try generalize Array.size (World.heap (G.w _)) = bk); (try dsimp only [List.set_cons_zero, List.set_cons_succ]); (try clear g); intro g)
  refine (CZ.out _).mono ?_
  rintro e w1 ⟨rfl, hb⟩
  obtain ⟨g1, rfl⟩ := G.call_ex _ hb
  clear hb
  (try clear g)
  revert g1
  intro g
  go_wp2_with (with_reducible refine G.any_mark _ ?_; (try generalize Array.size (World.heap (G.w _)) = bk); (try dsimp only [List.set_cons_zero, List.set_cons_succ]); (try clear g); intro g)
  go_cut [2, 3, 6] (fun r2 r3 r6 wx => ∃ (sb bv bu : Nat) (g : G w [] [(sb, 31, [.int .i64 hq, .int .u64 lq]), (bv, 23, [.int .i64 U, .int .i64 V, .int .i64 W]), (bu, 23, [.int .i64 X, .int .i64 Y, .int .i64 Z])] [heapOf w]), r2 = .pointer (some ⟨bu, 0, none⟩) ∧ r3 = .pointer (some ⟨bv, 0, none⟩) ∧ r6 = .pointer (some ⟨sb, 0, none⟩) ∧ wx = g.w)
  case first =>
    go_region_held3 (G.heldN g [true, true]) (simp [G.heldN, HeldN, go_sem]) (first
      | (go_at_call 15; first
          | ((with_reducible refine (C1.out _).mono ?_); rintro e w1 ⟨rfl, hb⟩; obtain ⟨g1, rfl⟩ := G.call_ex _ hb; clear hb C1; (try clear g); revert g1; intro g)
          | ((with_reducible refine (C2.out _).mono ?_); rintro e w1 ⟨rfl, hb⟩; obtain ⟨g1, rfl⟩ := G.call_ex _ hb; clear hb C2; (try clear g); revert g1; intro g))
      | (go_at_call 38; (with_reducible refine (S1.out _).mono ?_); rintro e w1 ⟨rfl, hb⟩; obtain ⟨g1, rfl⟩ := G.call_ex _ hb; clear hb S1; (try clear g); revert g1; intro g))
    all_goals (first | ((try simp only [G.drew_eq, G.drewN_eq]); (refine G.any_mark _ ?_; (try clear g); intro g)) | skip)
    all_goals go_wp2_with fail
    all_goals go_meet
    all_goals exact ⟨_, _, _, g, rfl, rfl, rfl, rfl⟩
  case rest =>
  obtain ⟨sb, bv, bu, g, rfl, rfl, rfl, rfl⟩ := hcut
  clear C1 C2 S1
  go_wp2_with (with_reducible refine G.any_mark _ ?_; (try generalize Array.size (World.heap (G.w _)) = bk); (try dsimp only [List.set_cons_zero, List.set_cons_succ]); (try clear g); intro g)
  go_cut [6] (fun r6 wx => ∃ (sb bv bu : Nat) (g : G w [] [(sb, 31, [.int .i64 (wh S), .int .u64 (wl S)]), (bv, 23, [.int .i64 U, .int .i64 V, .int .i64 W]), (bu, 23, [.int .i64 X, .int .i64 Y, .int .i64 Z])] [heapOf w]), r6 = .pointer (some ⟨sb, 0, none⟩) ∧ wx = g.w)
  case first =>
    refine wp_region_held_drew (S := G.heldN g [false, true, true]) (by kernel_rfl) (by simp [G.heldN, HeldN, go_sem]) (fun hHeld => ?_)
    refine wpAnyH_take (i := 1) (v := ?_) rfl (by kernel_rfl) (by kernel_rfl) (by kernel_rfl) (fun _ _ _ h => h) (Or.inl ⟨by rfl, ?_⟩) (by assumption) ?_
    rotate_left 1
    · (intro w hSw; (try dsimp only at hSw); go_simp; (try with_reducible rfl))
    (try simp only [Act.put, List.setIfInBounds_toArray, List.set_cons_zero, List.set_cons_succ])
    refine wpAnyH_take (i := 2) (v := ?_) rfl (by kernel_rfl) (by kernel_rfl) (by kernel_rfl) (fun _ _ _ h => h) (Or.inl ⟨by rfl, ?_⟩) (by assumption) ?_
    rotate_left 1
    · (intro w hSw; (try dsimp only at hSw); go_simp; (try with_reducible rfl))
    (try simp only [Act.put, List.setIfInBounds_toArray, List.set_cons_zero, List.set_cons_succ])
    refine wpAnyH_take (i := 3) (v := ?_) rfl (by kernel_rfl) (by kernel_rfl) (by kernel_rfl) (fun _ _ _ h => h) (Or.inl ⟨by rfl, ?_⟩) (by assumption) ?_
    rotate_left 1
    · (intro w hSw; (try dsimp only at hSw); go_simp; (try with_reducible rfl))
    (try simp only [Act.put, List.setIfInBounds_toArray, List.set_cons_zero, List.set_cons_succ])
    refine wpAnyH_take (i := 4) (v := ?_) rfl (by kernel_rfl) (by kernel_rfl) (by kernel_rfl) (fun _ _ _ h => h) (Or.inl ⟨by rfl, ?_⟩) (by assumption) ?_
    rotate_left 1
    · (intro w hSw; (try dsimp only at hSw); go_simp; (try with_reducible rfl))
    (try simp only [Act.put, List.setIfInBounds_toArray, List.set_cons_zero, List.set_cons_succ])
    refine wpAnyH_ready (rs := [0, 5]) (by kernel_rfl) (by simp) ?_
    refine AllReadyH.cons rfl (fun K hK => ?_) (AllReadyH.cons rfl (fun K hK => ?_) AllReadyH.nil)
    · go_simp
      refine hK.out _ _ (by simp [G.heldN, HeldN, go_sem]) (fun hHeld => ?_)
      clear hK K
      (try simp only [Act.put, List.setIfInBounds_toArray, List.set_cons_zero, List.set_cons_succ])
      refine wpAnyH_ready (rs := [5]) (by kernel_rfl) (by simp) ?_
      refine AllReadyH.cons rfl (fun K hK => ?_) AllReadyH.nil
      go_simp
      go_at_call 15
      (with_reducible refine (C3.out _).mono ?_)
      rintro e w1 ⟨rfl, hb⟩
      obtain ⟨g1, rfl⟩ := G.call_ex _ hb
      clear hb hHeld
      (try clear g)
      revert g1
      intro g
      refine hK.out _ _ (by simp [G.heldN, HeldN, go_sem]) (fun hHeld => ?_)
      clear hK K
      (try simp only [Act.put, List.setIfInBounds_toArray, List.set_cons_zero, List.set_cons_succ])
      refine wpAnyH_ready (rs := [6]) (by kernel_rfl) (by simp) ?_
      refine AllReadyH.cons rfl (fun K hK => ?_) AllReadyH.nil
      go_simp
      go_at_call 38
      (with_reducible refine (S2.out _).mono ?_)
      rintro e w1 ⟨rfl, hb⟩
      obtain ⟨g1, rfl⟩ := G.call_ex _ hb
      clear hb hHeld
      (try clear g)
      revert g1
      intro g
      refine hK.out _ _ (by simp [G.heldN, HeldN, go_sem]) (fun hHeld => ?_)
      clear hK K
      (try simp only [Act.put, List.setIfInBounds_toArray, List.set_cons_zero, List.set_cons_succ])
      refine wpAnyH_take (i := 7) (v := ?_) rfl (by kernel_rfl) (by kernel_rfl) (by kernel_rfl) (fun _ _ _ h => h) (Or.inl ⟨by rfl, ?_⟩) (by assumption) ?_
      rotate_left 1
      · (intro w hSw; (try dsimp only at hSw); go_simp; (try with_reducible rfl))
      (try simp only [Act.put, List.setIfInBounds_toArray, List.set_cons_zero, List.set_cons_succ])
      refine wpAnyH_take (i := 8) (v := ?_) rfl (by kernel_rfl) (by kernel_rfl) (by kernel_rfl) (fun _ _ _ h => h) (Or.inl ⟨by rfl, ?_⟩) (by assumption) ?_
      rotate_left 1
      · (intro w hSw; (try dsimp only at hSw); go_simp; (try with_reducible rfl))
      (try simp only [Act.put, List.setIfInBounds_toArray, List.set_cons_zero, List.set_cons_succ])
      refine wpAnyH_take (i := 9) (v := ?_) rfl (by kernel_rfl) (by kernel_rfl) (by kernel_rfl) (fun _ _ _ h => h) (Or.inl ⟨by rfl, ?_⟩) (by assumption) ?_
      rotate_left 1
      · (intro w hSw; (try dsimp only at hSw); go_simp; (try with_reducible rfl))
      (try simp only [Act.put, List.setIfInBounds_toArray, List.set_cons_zero, List.set_cons_succ])
      clear hHeld
      refine wpAnyH_ready (rs := [10]) (by kernel_rfl) (by simp) ?_
      refine AllReadyH.cons rfl (fun K hK => ?_) AllReadyH.nil
      go_simp
      refine hK.out _ _ (by simp [G.heldN, HeldN, go_sem]) (fun hHeld => ?_)
      clear hK K
      (try simp only [Act.put, List.setIfInBounds_toArray, List.set_cons_zero, List.set_cons_succ])
      refine wpAnyH_done (by kernel_rfl) ?_ _
      (first | ((try simp only [G.drew_eq, G.drewN_eq]); (refine G.any_mark _ ?_; (try clear g); intro g)) | skip)
      (try dsimp only [List.set_cons_zero, List.set_cons_succ])
      go_wp2_with fail
      go_meet
      exact ⟨_, _, _, g, rfl, rfl⟩
    · go_simp
      go_at_call 15
      (with_reducible refine (C3.out _).mono ?_)
      rintro e w1 ⟨rfl, hb⟩
      obtain ⟨g1, rfl⟩ := G.call_ex _ hb
      clear hb hHeld
      (try clear g)
      revert g1
      intro g
      refine hK.out _ _ (by simp [G.heldN, HeldN, go_sem]) (fun hHeld => ?_)
      clear hK K
      (try simp only [Act.put, List.setIfInBounds_toArray, List.set_cons_zero, List.set_cons_succ])
      refine wpAnyH_ready (rs := [0]) (by kernel_rfl) (by simp) ?_
      refine AllReadyH.cons rfl (fun K hK => ?_) AllReadyH.nil
      go_simp
      refine hK.out _ _ (by simp [G.heldN, HeldN, go_sem]) (fun hHeld => ?_)
      clear hK K
      (try simp only [Act.put, List.setIfInBounds_toArray, List.set_cons_zero, List.set_cons_succ])
      refine wpAnyH_ready (rs := [6]) (by kernel_rfl) (by simp) ?_
      refine AllReadyH.cons rfl (fun K hK => ?_) AllReadyH.nil
      go_simp
      go_at_call 38
      (with_reducible refine (S2.out _).mono ?_)
      rintro e w1 ⟨rfl, hb⟩
      obtain ⟨g1, rfl⟩ := G.call_ex _ hb
      clear hb hHeld
      (try clear g)
      revert g1
      intro g
      refine hK.out _ _ (by simp [G.heldN, HeldN, go_sem]) (fun hHeld => ?_)
      clear hK K
      (try simp only [Act.put, List.setIfInBounds_toArray, List.set_cons_zero, List.set_cons_succ])
      refine wpAnyH_take (i := 7) (v := ?_) rfl (by kernel_rfl) (by kernel_rfl) (by kernel_rfl) (fun _ _ _ h => h) (Or.inl ⟨by rfl, ?_⟩) (by assumption) ?_
      rotate_left 1
      · (intro w hSw; (try dsimp only at hSw); go_simp; (try with_reducible rfl))
      (try simp only [Act.put, List.setIfInBounds_toArray, List.set_cons_zero, List.set_cons_succ])
      refine wpAnyH_take (i := 8) (v := ?_) rfl (by kernel_rfl) (by kernel_rfl) (by kernel_rfl) (fun _ _ _ h => h) (Or.inl ⟨by rfl, ?_⟩) (by assumption) ?_
      rotate_left 1
      · (intro w hSw; (try dsimp only at hSw); go_simp; (try with_reducible rfl))
      (try simp only [Act.put, List.setIfInBounds_toArray, List.set_cons_zero, List.set_cons_succ])
      refine wpAnyH_take (i := 9) (v := ?_) rfl (by kernel_rfl) (by kernel_rfl) (by kernel_rfl) (fun _ _ _ h => h) (Or.inl ⟨by rfl, ?_⟩) (by assumption) ?_
      rotate_left 1
      · (intro w hSw; (try dsimp only at hSw); go_simp; (try with_reducible rfl))
      (try simp only [Act.put, List.setIfInBounds_toArray, List.set_cons_zero, List.set_cons_succ])
      clear hHeld
      refine wpAnyH_ready (rs := [10]) (by kernel_rfl) (by simp) ?_
      refine AllReadyH.cons rfl (fun K hK => ?_) AllReadyH.nil
      go_simp
      refine hK.out _ _ (by simp [G.heldN, HeldN, go_sem]) (fun hHeld => ?_)
      clear hK K
      (try simp only [Act.put, List.setIfInBounds_toArray, List.set_cons_zero, List.set_cons_succ])
      refine wpAnyH_done (by kernel_rfl) ?_ _
      (first | ((try simp only [G.drew_eq, G.drewN_eq]); (refine G.any_mark _ ?_; (try clear g); intro g)) | skip)
      (try dsimp only [List.set_cons_zero, List.set_cons_succ])
      go_wp2_with fail
      go_meet
      exact ⟨_, _, _, g, rfl, rfl⟩
  case rest =>
  obtain ⟨sb, bv, bu, g, rfl, rfl⟩ := hcut
  clear C3 S2
  by_cases hs : S < 0
  · obtain ⟨a, b, e1, e2, e3, e4, e5, e6⟩ := ralong_end S (-S + 536870912) HS.out (by rw [if_pos hs])
    rw [if_pos hs] at e5 e6
    have hr : DI.rnd S = -((-S + 536870912) / 1073741824) := by unfold DI.rnd; rw [if_pos hs]
    have hw : wh S < 0 := (wh_neg S).2 hs
    have hS := HS.out
    have CM := Lib.hid (fun w => rminusW S (-S) hS rfl w)
    have S3 : Hid (∀ w, Calls Try.prog 38 #[.agg #[.int .i64 (wh (-S)), .int .u64 (wl (-S))], .agg #[.int .i64 0, .int .u64 536870912]] w fun e w' => e = .returned (.tuple #[.agg #[.int .i64 (wh (-S + 536870912)), .int .u64 (wl (-S + 536870912))], .int .i64 0]) ∧ Below w.heap.size w w') :=
      Lib.hid (fun w => rplusW (-S) 536870912 (-S + 536870912) (by omega) (by omega) rfl w)
    have HR := Lib.hid hr
    generalize -S + 536870912 = T at *
    generalize -S = M at *
    generalize wh S = hS1 at *
    generalize wl S = lS1 at *
    generalize wh M = hM at *
    generalize wl M = lM at *
    generalize wh T = hT at *
    generalize wl T = lT at *
    clear hr hs hS HS
    go_wp2_with (with_reducible refine G.any_mark _ ?_; (try generalize Array.size (World.heap (G.w _)) = bk); (try dsimp only [List.set_cons_zero, List.set_cons_succ]); (try clear g); intro g)
    (try (refine cmark _ ?_; (try dsimp only [List.set_cons_zero, List.set_cons_succ]); (try clear g); intro g))
    (with_reducible refine (CM.out _).mono ?_)
    rintro e w1 ⟨rfl, hb⟩
    obtain ⟨g1, rfl⟩ := G.call_ex _ hb
    clear hb
    (try clear g)
    revert g1
    intro g
    go_wp2_with (with_reducible refine G.any_mark _ ?_; (try generalize Array.size (World.heap (G.w _)) = bk); (try dsimp only [List.set_cons_zero, List.set_cons_succ]); (try clear g); intro g)
    (try (refine cmark _ ?_; (try dsimp only [List.set_cons_zero, List.set_cons_succ]); (try clear g); intro g))
    (with_reducible refine (S3.out _).mono ?_)
    rintro e w1 ⟨rfl, hb⟩
    obtain ⟨g1, rfl⟩ := G.call_ex _ hb
    clear hb
    (try clear g)
    revert g1
    intro g
    go_wp2_with (with_reducible refine G.any_mark _ ?_; (try generalize Array.size (World.heap (G.w _)) = bk); (try dsimp only [List.set_cons_zero, List.set_cons_succ]); (try clear g); intro g)
    go_ret2
    exact ⟨by rw [HR.out]; rfl, G.below _⟩
  · obtain ⟨a, b, e1, e2, e3, e4, e5, e6⟩ := ralong_end S (S + 536870912) HS.out (by rw [if_neg hs])
    rw [if_neg hs] at e5 e6
    have hr : DI.rnd S = (S + 536870912) / 1073741824 := by unfold DI.rnd; rw [if_neg hs]
    have hw : ¬ wh S < 0 := fun h => hs ((wh_neg S).1 h)
    have hS := HS.out
    have S3 : Hid (∀ w, Calls Try.prog 38 #[.agg #[.int .i64 (wh S), .int .u64 (wl S)], .agg #[.int .i64 0, .int .u64 536870912]] w fun e w' => e = .returned (.tuple #[.agg #[.int .i64 (wh (S + 536870912)), .int .u64 (wl (S + 536870912))], .int .i64 0]) ∧ Below w.heap.size w w') :=
      Lib.hid (fun w => rplusW S 536870912 (S + 536870912) (by omega) (by omega) rfl w)
    have HR := Lib.hid hr
    generalize S + 536870912 = T at *
    generalize wh S = hS1 at *
    generalize wl S = lS1 at *
    generalize wh T = hT at *
    generalize wl T = lT at *
    clear hr hs hS HS
    go_wp2_with (with_reducible refine G.any_mark _ ?_; (try generalize Array.size (World.heap (G.w _)) = bk); (try dsimp only [List.set_cons_zero, List.set_cons_succ]); (try clear g); intro g)
    (try (refine cmark _ ?_; (try dsimp only [List.set_cons_zero, List.set_cons_succ]); (try clear g); intro g))
    (with_reducible refine (S3.out _).mono ?_)
    rintro e w1 ⟨rfl, hb⟩
    obtain ⟨g1, rfl⟩ := G.call_ex _ hb
    clear hb
    (try clear g)
    revert g1
    intro g
    go_wp2_with (with_reducible refine G.any_mark _ ?_; (try generalize Array.size (World.heap (G.w _)) = bk); (try dsimp only [List.set_cons_zero, List.set_cons_succ]); (try clear g); intro g)
    go_ret2
    exact ⟨by rw [HR.out]; rfl, G.below _⟩
end Go.Proofs.Ytodigegjngnknaa
