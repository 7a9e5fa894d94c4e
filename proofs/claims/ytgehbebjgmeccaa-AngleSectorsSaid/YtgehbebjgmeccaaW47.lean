/- Contracts of functions of the program and of its reference, out of walks. Their conditions stand ahead of each. -/
import Derived.Test.YtgehbebjgmeccaaW46
set_option linter.unusedVariables false
set_option linter.unusedSimpArgs false
namespace Go.Proofs.Ytgehbebjgmeccaa
open Go.RowKit GW
theorem sectors_plain (X Y M : Int) (hX : -1000000 ≤ X ∧ X ≤ 1000000) (hY : -1000000 ≤ Y ∧ Y ≤ 1000000) (hM : 1 ≤ M ∧ M ≤ 1000000) :
    (-1000000000000 ≤ X * M ∧ X * M ≤ 1000000000000) ∧ (-1000000000000 ≤ Y * M ∧ Y * M ≤ 1000000000000) := by
  constructor
  · obtain ⟨a, b⟩ := mulbd X M 1000000 1000000 (by omega) (by omega) (by omega) (by omega); omega
  · obtain ⟨a, b⟩ := mulbd Y M 1000000 1000000 (by omega) (by omega) (by omega) (by omega); omega
theorem Sector_s (x y V : Int) (hx : -70368744177664 ≤ x ∧ x ≤ 70368744177664) (hy : -70368744177664 ≤ y ∧ y ≤ 70368744177664) (hV : Ang.secF x y = V) (w : World) :
    Calls Try.prog 58 #[.agg #[.int .i64 x, .int .i64 y]] w fun e w' => e = .returned (.tuple #[.int .i64 V, .int .i64 0]) ∧ Below w.heap.size w w' := by
  subst hV; exact Sector_yes x y hx hy w
theorem Fine_s (x y V : Int) (hx : -70368744177664 ≤ x ∧ x ≤ 70368744177664) (hy : -70368744177664 ≤ y ∧ y ≤ 70368744177664) (hV : Ang.fineF x y = V) (w : World) :
    Calls Try.prog 50 #[.agg #[.int .i64 x, .int .i64 y]] w fun e w' => e = .returned (.tuple #[.int .i64 V, .int .i64 0]) ∧ Below w.heap.size w w' := by
  subst hV; exact Fine_yes x y hx hy w
/-- What the law asks of the sectors and fine angles. -/
structure SecOk (X Y C D U V : Int) : Prop where
  c0 : 0 ≤ C
  c1 : C < 64
  u0 : 0 ≤ U
  u1 : U < 4096
  d : D = (C + 16) % 64
  v : V = (U + 1024) % 4096
theorem sec_ok (X Y : Int) (h : X ≠ 0 ∨ Y ≠ 0) : SecOk X Y (Ang.secF X Y) (Ang.secF (-Y) X) (Ang.fineF X Y) (Ang.fineF (-Y) X) := by
  have s := Ang.secF_is X Y h
  have f := Ang.fineF_bd X Y
  exact ⟨s.1, s.2.1, f.1, f.2, Ang.secF_rot h, Ang.fineF_rot h⟩
set_option maxHeartbeats 4000000 in
set_option maxRecDepth 100000 in
theorem sectors_walk (x y k m : Int) (w : World) :
    Calls Try.prog 12 #[.int .i64 x, .int .i64 y, .int .i64 k, .int .i64 m] w fun e w' => e = .returned (.bool true) ∧ Below w.heap.size w w' := by
  obtain ⟨K, hK⟩ : ∃ n : Nat, k % 64 = n := ⟨(k % 64).toNat, by omega⟩
  have hK1 : K < 64 := by omega
  obtain ⟨M0, hM⟩ : ∃ n : Int, m % 1000000 = n := ⟨_, rfl⟩
  obtain ⟨X0, hX⟩ : ∃ n : Int, x % 2000001 = n := ⟨_, rfl⟩
  obtain ⟨Y0, hY⟩ : ∃ n : Int, y % 2000001 = n := ⟨_, rfl⟩
  have m0 : 0 ≤ M0 ∧ M0 ≤ 999999 := by omega
  have x0 : 0 ≤ X0 ∧ X0 ≤ 2000000 := by omega
  have y0 : 0 ≤ Y0 ∧ Y0 ≤ 2000000 := by omega
  have HKK := Lib.hid hK
  have HMM := Lib.hid hM
  have HXX := Lib.hid hX
  have HYY := Lib.hid hY
  obtain ⟨m1, m2⟩ := m0
  obtain ⟨x1, x2⟩ := x0
  obtain ⟨y1, y2⟩ := y0
  clear hK hM hX hY
  have hmm : 0 ≤ 1 + M0 := by omega
  refine calls_g fun g => ?_
  go_enter Try.func12, Try.ntmps12
  go_wp2_with (with_reducible refine G.any_mark _ ?_; (try generalize Array.size (World.heap (G.w _)) = bk); (try dsimp only [List.set_cons_zero, List.set_cons_succ]); (try clear g); intro g)
  refine (pick_any x 2000001 (by omega) (by omega) _).mono ?_
  rw [HXX.out]
  rintro e w1 ⟨rfl, rfl⟩
  go_wp2_with (with_reducible refine G.any_mark _ ?_; (try generalize Array.size (World.heap (G.w _)) = bk); (try dsimp only [List.set_cons_zero, List.set_cons_succ]); (try clear g); intro g)
  refine (pick_any y 2000001 (by omega) (by omega) _).mono ?_
  rw [HYY.out]
  rintro e w1 ⟨rfl, rfl⟩
  go_wp2_with (with_reducible refine G.any_mark _ ?_; (try generalize Array.size (World.heap (G.w _)) = bk); (try dsimp only [List.set_cons_zero, List.set_cons_succ]); (try clear g); intro g)
  refine (pick_any k 64 (by omega) (by omega) _).mono ?_
  rw [HKK.out]
  rintro e w1 ⟨rfl, rfl⟩
  go_wp2_with (with_reducible refine G.any_mark _ ?_; (try generalize Array.size (World.heap (G.w _)) = bk); (try dsimp only [List.set_cons_zero, List.set_cons_succ]); (try clear g); intro g)
  refine (pick_any m 1000000 (by omega) (by omega) _).mono ?_
  rw [HMM.out]
  rintro e w1 ⟨rfl, rfl⟩
  go_wp2_with (with_reducible refine G.any_mark _ ?_; (try generalize Array.size (World.heap (G.w _)) = bk); (try dsimp only [List.set_cons_zero, List.set_cons_succ]); (try clear g); intro g)
  refine (Table_any _).mono ?_
  rintro e w1 ⟨tb, rfl, hb0, hb1, hb⟩
  obtain ⟨g1, rfl⟩ := G.own_ex _ hb hb0 hb1
  clear hb hb0 hb1 g
  revert g1
  intro g
  generalize hXe : X0 - 1000000 = X at *
  generalize hYe : Y0 - 1000000 = Y at *
  generalize hMe : 1 + M0 = M at *
  have X1 : -1000000 ≤ X := by omega
  have X2 : X ≤ 1000000 := by omega
  have Y1 : -1000000 ≤ Y := by omega
  have Y2 : Y ≤ 1000000 := by omega
  have M1 : 1 ≤ M := by omega
  have M2 : M ≤ 1000000 := by omega
  clear hXe hYe hMe m1 m2 x1 x2 y1 y2 hmm HXX HYY HMM HKK
  obtain ⟨s1, s2⟩ := sectors_plain X Y M ⟨X1, X2⟩ ⟨Y1, Y2⟩ ⟨M1, M2⟩
  obtain ⟨s3, s4⟩ := s1
  obtain ⟨s5, s6⟩ := s2
  have EI := Ang.entry_is K hK1 M (by omega)
  have tbd := ti_bd K
  have p1 := mulbd (Ang.ti K) M 127 1000000 tbd.1 tbd.2.1 (by omega) (by omega)
  have p2 := mulbd (Ang.tq K) M 127 1000000 tbd.2.2.1 tbd.2.2.2 (by omega) (by omega)
  obtain ⟨c0, c1⟩ := tabK_at K hK1
  have K0 : (0 : Int) ≤ K := by omega
  have K1 : (K : Int) < 64 := by omega
  have FB := Ang.fineF_bd (Ang.ti K * M) (Ang.tq K * M)
  generalize hFe : Ang.fineF (Ang.ti K * M) (Ang.tq K * M) = F at *
  have E1 := Lib.hid EI.1
  have E2 := Lib.hid EI.2
  have F1 := Lib.hid hFe
  have f1 := FB.1
  have f2 := FB.2
  obtain ⟨p3, p4⟩ := p1
  obtain ⟨p5, p6⟩ := p2
  clear EI hFe tbd FB
  go_wp2_with (with_reducible refine G.any_mark _ ?_; (try generalize Array.size (World.heap (G.w _)) = bk); (try dsimp only [List.set_cons_zero, List.set_cons_succ]); (try clear g); intro g)
  refine (lives_any _).mono ?_; rintro e w1 ⟨rfl, hb⟩; obtain ⟨g1, rfl⟩ := G.call_ex _ hb; clear hb; (try clear g); revert g1; intro g
  go_wp2_with (with_reducible refine G.any_mark _ ?_; (try generalize Array.size (World.heap (G.w _)) = bk); (try dsimp only [List.set_cons_zero, List.set_cons_succ]); (try clear g); intro g)
  go_region_held3 (G.heldN g [true]) (simp [G.heldN, HeldN, go_sem]) (fail)
  all_goals
    (refine G.any_mark _ ?_; (try generalize Array.size (World.heap (G.w _)) = bk); (try dsimp only [List.set_cons_zero, List.set_cons_succ]); (try clear g); intro g)
    go_wp2_with (with_reducible refine G.any_mark _ ?_; (try generalize Array.size (World.heap (G.w _)) = bk); (try dsimp only [List.set_cons_zero, List.set_cons_succ]); (try clear g); intro g)
    refine (Sector_s _ _ K (by omega) (by omega) E1.out _).mono ?_; rintro e w1 ⟨rfl, hb⟩; obtain ⟨g1, rfl⟩ := G.call_ex _ hb; clear hb; (try clear g); revert g1; intro g
    go_wp2_with (with_reducible refine G.any_mark _ ?_; (try generalize Array.size (World.heap (G.w _)) = bk); (try dsimp only [List.set_cons_zero, List.set_cons_succ]); (try clear g); intro g)
    refine (Fine_s _ _ F (by omega) (by omega) F1.out _).mono ?_; rintro e w1 ⟨rfl, hb⟩; obtain ⟨g1, rfl⟩ := G.call_ex _ hb; clear hb; (try clear g); revert g1; intro g
    have w64 : IntKind.i64.wrap (64 * (K : Int)) = 64 * K := IntWalk.i64_in _ (by omega)
    go_wp2_with (with_reducible refine G.any_mark _ ?_; (try generalize Array.size (World.heap (G.w _)) = bk); (try dsimp only [List.set_cons_zero, List.set_cons_succ]); (try clear g); intro g)
    refine (pick_any _ 4096 (by omega) (by omega) _).mono ?_
    have E3 := E2.out
    generalize (F - 64 * (K : Int) + 2) % 4096 = O at *
    rintro e w1 ⟨rfl, rfl⟩
    clear p3 p4 p5 p6 f1 f2 c0 c1 w64
    by_cases hz : X ≠ 0 ∨ Y ≠ 0
    · have sk := sec_ok X Y hz
      have sc := Ang.fineF_scale (x := X) (y := Y) (m := M) (by omega)
      generalize hC : Ang.secF X Y = C at *
      generalize hD : Ang.secF (-Y) X = D at *
      generalize hU : Ang.fineF X Y = U at *
      generalize hV : Ang.fineF (-Y) X = V at *
      obtain ⟨k1, k2, k3, k4, k5, k6⟩ := sk
      have HC := Lib.hid hC
      have HD := Lib.hid hD
      have HU := Lib.hid hU
      have HV := Lib.hid hV
      have SC := Lib.hid sc
      have q1 : ((C + 16) % 64 == D) = true := by rw [k5]; exact beq_self_eq_true _
      have q2 : ((U + 1024) % 4096 == V) = true := by rw [k6]; exact beq_self_eq_true _
      have q3 : (Y == 0) = false ∨ (X == 0) = false := by
        rcases hz with h | h
        · exact .inr (by simpa using h)
        · exact .inl (by simpa using h)
      clear hC hD hU hV sc k5 k6 hz
      go_wp2_with (with_reducible refine G.any_mark _ ?_; (try generalize Array.size (World.heap (G.w _)) = bk); (try dsimp only [List.set_cons_zero, List.set_cons_succ]); (try clear g); intro g)
      refine (Sector_s X Y C (by omega) (by omega) HC.out _).mono ?_; rintro e w1 ⟨rfl, hb⟩; obtain ⟨g1, rfl⟩ := G.call_ex _ hb; clear hb; (try clear g); revert g1; intro g
      go_wp2_with (with_reducible refine G.any_mark _ ?_; (try generalize Array.size (World.heap (G.w _)) = bk); (try dsimp only [List.set_cons_zero, List.set_cons_succ]); (try clear g); intro g)
      refine (Sector_s (-Y) X D (by omega) (by omega) HD.out _).mono ?_; rintro e w1 ⟨rfl, hb⟩; obtain ⟨g1, rfl⟩ := G.call_ex _ hb; clear hb; (try clear g); revert g1; intro g
      go_wp2_with (with_reducible refine G.any_mark _ ?_; (try generalize Array.size (World.heap (G.w _)) = bk); (try dsimp only [List.set_cons_zero, List.set_cons_succ]); (try clear g); intro g)
      refine (Fine_s X Y U (by omega) (by omega) HU.out _).mono ?_; rintro e w1 ⟨rfl, hb⟩; obtain ⟨g1, rfl⟩ := G.call_ex _ hb; clear hb; (try clear g); revert g1; intro g
      go_wp2_with (with_reducible refine G.any_mark _ ?_; (try generalize Array.size (World.heap (G.w _)) = bk); (try dsimp only [List.set_cons_zero, List.set_cons_succ]); (try clear g); intro g)
      refine (Fine_s (-Y) X V (by omega) (by omega) HV.out _).mono ?_; rintro e w1 ⟨rfl, hb⟩; obtain ⟨g1, rfl⟩ := G.call_ex _ hb; clear hb; (try clear g); revert g1; intro g
      go_wp2_with (with_reducible refine G.any_mark _ ?_; (try generalize Array.size (World.heap (G.w _)) = bk); (try dsimp only [List.set_cons_zero, List.set_cons_succ]); (try clear g); intro g)
      refine (Fine_s (X * M) (Y * M) U (by omega) (by omega) SC.out _).mono ?_; rintro e w1 ⟨rfl, hb⟩; obtain ⟨g1, rfl⟩ := G.call_ex _ hb; clear hb; (try clear g); revert g1; intro g
      rcases q3 with q3 | q3 <;> by_cases q4 : X = 0
      all_goals
        (go_wp2_with (with_reducible refine G.any_mark _ ?_; (try generalize Array.size (World.heap (G.w _)) = bk); (try dsimp only [List.set_cons_zero, List.set_cons_succ]); (try clear g); intro g)) <;> (go_ret; exact ⟨rfl, G.below _⟩)
    · obtain ⟨rfl, rfl⟩ : X = 0 ∧ Y = 0 := by omega
      have z1 := Lib.hid Ang.secF_zero
      have z2 := Lib.hid (show Ang.fineF 0 0 = 0 by decide)
      clear hz s3 s4 s5 s6 X1 X2 Y1 Y2
      go_wp2_with (with_reducible refine G.any_mark _ ?_; (try generalize Array.size (World.heap (G.w _)) = bk); (try dsimp only [List.set_cons_zero, List.set_cons_succ]); (try clear g); intro g)
      refine (Sector_s 0 0 0 (by omega) (by omega) z1.out _).mono ?_; rintro e w1 ⟨rfl, hb⟩; obtain ⟨g1, rfl⟩ := G.call_ex _ hb; clear hb; (try clear g); revert g1; intro g
      go_wp2_with (with_reducible refine G.any_mark _ ?_; (try generalize Array.size (World.heap (G.w _)) = bk); (try dsimp only [List.set_cons_zero, List.set_cons_succ]); (try clear g); intro g)
      refine (Sector_s 0 0 0 (by omega) (by omega) z1.out _).mono ?_; rintro e w1 ⟨rfl, hb⟩; obtain ⟨g1, rfl⟩ := G.call_ex _ hb; clear hb; (try clear g); revert g1; intro g
      go_wp2_with (with_reducible refine G.any_mark _ ?_; (try generalize Array.size (World.heap (G.w _)) = bk); (try dsimp only [List.set_cons_zero, List.set_cons_succ]); (try clear g); intro g)
      refine (Fine_s 0 0 0 (by omega) (by omega) z2.out _).mono ?_; rintro e w1 ⟨rfl, hb⟩; obtain ⟨g1, rfl⟩ := G.call_ex _ hb; clear hb; (try clear g); revert g1; intro g
      go_wp2_with (with_reducible refine G.any_mark _ ?_; (try generalize Array.size (World.heap (G.w _)) = bk); (try dsimp only [List.set_cons_zero, List.set_cons_succ]); (try clear g); intro g)
      refine (Fine_s 0 0 0 (by omega) (by omega) z2.out _).mono ?_; rintro e w1 ⟨rfl, hb⟩; obtain ⟨g1, rfl⟩ := G.call_ex _ hb; clear hb; (try clear g); revert g1; intro g
      go_wp2_with (with_reducible refine G.any_mark _ ?_; (try generalize Array.size (World.heap (G.w _)) = bk); (try dsimp only [List.set_cons_zero, List.set_cons_succ]); (try clear g); intro g)
      refine (Fine_s 0 0 0 (by omega) (by omega) z2.out _).mono ?_; rintro e w1 ⟨rfl, hb⟩; obtain ⟨g1, rfl⟩ := G.call_ex _ hb; clear hb; (try clear g); revert g1; intro g
      (go_wp2_with (with_reducible refine G.any_mark _ ?_; (try generalize Array.size (World.heap (G.w _)) = bk); (try dsimp only [List.set_cons_zero, List.set_cons_succ]); (try clear g); intro g)) <;> (go_ret; exact ⟨rfl, G.below _⟩)
end Go.Proofs.Ytgehbebjgmeccaa
