/- Plain facts and contracts of functions of the program, out of walks. Their conditions stand ahead of each. -/
import Derived.Test.YtcaaecmbbbdopaaDs11
import Derived.Test.YtcaaecmbbbdopaaDs14
import Derived.Test.YtcaaecmbbbdopaaDs16
import Derived.Test.YtcaaecmbbbdopaaDs17
import Derived.Below
import Derived.BigQuiet
import Derived.Deep.DeepCutAuto
import Derived.Deep.Draws
import Derived.Deep.QuietTactic
import Derived.Deep.RegionHeld
import Derived.Deep.RegionHeld3
import Derived.Deep.RegionLaw
import Derived.Deep.WholeRow
import Derived.Great.BuildSlice
import Derived.Laws.Bits128
import Derived.Laws.CopyOwn
import Derived.Laws.IdiomCopy
import Derived.Laws.NewBlocks
import Derived.Laws.OwnMore
import Derived.Laws.Pointers
import Derived.Laws.Rows
import Derived.Laws.Tables
import Derived.Lib.BitFns
import Derived.Lib.Hide
import Derived.Lib.ItoaNum
import Derived.Maps.AppendAt
import Derived.OrdersHeld
import Derived.RowKit3
import Derived.StillTactics
import Derived.StillTailTactics
import Derived.Test.YtcaaecmbbbdopaaProg
import Derived.WalkKit
import Derived.WalkLawsBesides
import Derived.WalkSpells
set_option linter.unusedVariables false
set_option linter.unusedSimpArgs false
namespace Go.Proofs.Ytcaaecmbbbdopaa
open Go.RowKit GW
theorem cmark {P : Program} {f : FuncId} {args : Array Value} {R : Ending → World → Prop} {w0 : World} {X : List Nat} {M : List Blk} {I : List Frag} (g : G w0 X M I) (h : ∀ g : G w0 X M I, Calls P f args g.w R) : Calls P f args g.mark.w R := h _
set_option maxRecDepth 20000 in
set_option maxHeartbeats 8000000 in
theorem steps_walk (A : Option Addr) (c : Nat) (l : List Int) (j k : Int) (w : World) (hs : SiW w A c l) :
    Calls Try.prog 3 #[.slice A l.length c, .int .i64 j, .int .i64 k] w fun e w' => e = .returned (.bool true) ∧ Below w.heap.size w w' := by
  refine calls_b fun g => ?_
  have CK := Lib.hid known_any
  have hmax := hs.max
  have hlen := hs.len
  by_cases hl : 20 < l.length
  · have hli : (20 : Int) < (l.length : Int) := by omega
    clear hs
    generalize l.length = n at *
    go_enter Try.func3, Try.ntmps3
    go_wp2_with (with_reducible refine G.any_mark _ ?_; (try generalize Array.size (World.heap (G.w _)) = bk); (try dsimp only [List.set_cons_zero, List.set_cons_succ]); (try clear g); intro g)
    refine (CK.out _).mono ?_
    rintro e w1 ⟨rfl, hb⟩
    obtain ⟨g1, rfl⟩ := G.call_ex _ hb
    clear hb
    (try clear g)
    revert g1
    intro g
    go_wp2_with (with_reducible refine G.any_mark _ ?_; (try generalize Array.size (World.heap (G.w _)) = bk); (try dsimp only [List.set_cons_zero, List.set_cons_succ]); (try clear g); intro g)
    go_ret
    exact ⟨rfl, G.below _⟩
  have hl20 : l.length ≤ 20 := by omega
  have hli : ¬ ((20 : Int) < (l.length : Int)) := by omega
  have CT1 := Lib.hid (fun w => turn_any j 63 (by decide) (by decide) w)
  have CT2 := Lib.hid (fun w => turn_any k 6 (by decide) (by decide) w)
  have CP := Lib.hid (fun w hs => plan_ex A c l w hs)
  unfold RPlan at CP
  have c1 := smF_bd l 1 (n := 3) (by decide)
  have c2 := smF_bd l 2 (n := 3) (by decide)
  have c4 := smF_bd l 4 (n := 50) (by decide)
  have c6 := smF_bd l 6 (n := 20) (by decide)
  have c7 := smF_bd l 7 (n := 3) (by decide)
  have d4 := smF_bd l 4 (n := 64) (by decide)
  obtain ⟨ov, hov⟩ : ∃ ov : Nat, 1 + smF l 1 3 = (ov : Int) := ⟨(1 + smF l 1 3).toNat, by omega⟩
  obtain ⟨pb, hpb⟩ : ∃ pb, 1 + smF l 2 3 = pb := ⟨_, rfl⟩
  obtain ⟨nz, hnz⟩ : ∃ nz, smF l 4 50 = nz := ⟨_, rfl⟩
  obtain ⟨p, hp⟩ : ∃ p : Nat, 1 + smF l 6 20 = (p : Int) := ⟨(1 + smF l 6 20).toNat, by omega⟩
  obtain ⟨n, hn⟩ : ∃ n : Nat, (smF l 7 3).toNat + 1 = n := ⟨_, rfl⟩
  rw [hov, hpb, hnz, hp, hn] at CP
  have o1 : 1 ≤ ov := by omega
  have o2 : ov ≤ 3 := by omega
  have p1 : 1 ≤ pb := by omega
  have p2 : pb ≤ 3 := by omega
  have z1 : 0 ≤ nz := by omega
  have z2 : nz ≤ 100 := by omega
  have f1 : 1 ≤ p := by omega
  have f2 : p ≤ 20 := by omega
  have n1 : 1 ≤ n := by omega
  have n3 : n ≤ 3 := by omega
  have d0 := smF_bd l 0 (n := 31 * (ov : Int)) (by omega)
  have d6 := smF_bd l 6 (n := pb) (by omega)
  have CE := Lib.hid (fun B c2 w h1 h2 => emit_ex A B c c2 n l (ov : Int) pb nz (p : Int) (by omega) (by omega) p1 p2 n1 (by omega) w h1 hl20 h2)
  unfold REm at CE
  obtain ⟨D, hD⟩ : ∃ D : Nat, smF l 0 (31 * (ov : Int)) = (D : Int) := ⟨(smF l 0 (31 * (ov : Int))).toNat, by omega⟩
  obtain ⟨ba, hba⟩ : ∃ ba, smF l 6 pb = ba := ⟨_, rfl⟩
  obtain ⟨q, hq⟩ : ∃ q, smF l 4 64 = q := ⟨_, rfl⟩
  rw [hD, hba, hq] at CE
  rw [hD] at d0; rw [hba] at d6; rw [hq] at d4
  obtain ⟨K, hK⟩ : ∃ K : Nat, k % 6 = (K : Int) := ⟨(k % 6).toNat, by omega⟩
  have hK5 : K ≤ 5 := by omega
  obtain ⟨jv, hjv⟩ : ∃ jv, j % 63 = jv := ⟨_, rfl⟩
  have j1 : -31 ≤ jv - 31 := by omega
  have j2 : jv - 31 ≤ 31 := by omega
  rw [hjv] at CT1
  rw [hK] at CT2
  obtain ⟨ph, hph⟩ : ∃ ph, q * 67108864 = ph := ⟨_, rfl⟩
  obtain ⟨st, hst'⟩ : ∃ st, (jv - 31) % 4294967296 * 67108864 % 4294967296 = st := ⟨_, rfl⟩
  have hst : (jv - 31) * 67108864 % 4294967296 = st := by omega
  rw [hph] at CE
  obtain ⟨sz, hsz⟩ : ∃ sz : Nat, 31 * ov = sz := ⟨_, rfl⟩
  have hK3 : K * sz + 2 * sz = (K + 2) * sz := by rw [Nat.add_mul]
  have hK4 : (K + 1) * sz = K * sz + sz := by rw [Nat.add_mul, Nat.one_mul]
  have hKs : K * sz ≤ 5 * 93 := Nat.mul_le_mul hK5 (by omega)
  obtain ⟨S0, hS0⟩ : ∃ S0, K * sz = S0 := ⟨_, rfl⟩
  have CM := Lib.hid (fun B c2 be w h1 h2 => make12_ex B c2 n ov p (D + (K + 2) * sz) be pb nz (D : Int) st ph ba o1 o2 p1 p2 z1 z2 n1 n3 f1 f2 (by omega) (by omega) (by omega) (by omega) (by omega) (by omega) (by omega) w h1 h2)
  unfold RMake at CM
  have CS := Lib.hid (fun w => samples_ex p ov f1 (by omega) o1 o2 w)
  unfold RSmp at CS
  have CA := Lib.hid (fun B c2 w h => Sum14_ex B c2 p ov (D + K * sz) (smpS p (D : Int) ov ph st (D + (K + 2) * sz)) f1 (by omega) o1 o2 w h (by rw [smpS_len]; omega) (smpS_small _ _ _ _ _ _) (by rw [smpS_len]; omega))
  have CB := Lib.hid (fun B c2 w h => Sum14_ex B c2 p ov (D + (K + 1) * sz) (smpS p (D : Int) ov ph st (D + (K + 2) * sz)) f1 (by omega) o1 o2 w h (by rw [smpS_len]; omega) (smpS_small _ _ _ _ _ _) (by rw [smpS_len]; omega))
  have hSA : Hid (sI (smpS p (D : Int) ov ph st (D + (K + 2) * sz)) (smp p ov (31 * ov)) (D + K * sz) (31 * ov) = Ang.ti (q + (jv - 31) * (K : Int)) * (sz : Int) ∧ sQ (smpS p (D : Int) ov ph st (D + (K + 2) * sz)) (smp p ov (31 * ov)) (D + K * sz) (31 * ov) = Ang.tq (q + (jv - 31) * (K : Int)) * (sz : Int)) := Lib.hid (by
    have := sum_at p D K ov (D + (K + 2) * sz) ph st (by rw [hsz]; omega) (31 * ov) (Nat.le_refl _)
    rw [hsz] at this ⊢
    rw [← hph, ← hst, phF_is, (ti_mod _).1, (ti_mod _).2] at this
    rw [← hph, ← hst]
    exact this)
  have hSB : Hid (sI (smpS p (D : Int) ov ph st (D + (K + 2) * sz)) (smp p ov (31 * ov)) (D + (K + 1) * sz) (31 * ov) = Ang.ti (q + (jv - 31) * (K : Int) + (jv - 31)) * (sz : Int) ∧ sQ (smpS p (D : Int) ov ph st (D + (K + 2) * sz)) (smp p ov (31 * ov)) (D + (K + 1) * sz) (31 * ov) = Ang.tq (q + (jv - 31) * (K : Int) + (jv - 31)) * (sz : Int)) := Lib.hid (by
    have := sum_at p D (K + 1) ov (D + (K + 2) * sz) ph st (by rw [hsz]; omega) (31 * ov) (Nat.le_refl _)
    rw [hsz] at this ⊢
    rw [← hph, ← hst, phF_is, (ti_mod _).1, (ti_mod _).2] at this
    rw [← hph, ← hst]
    rw [show q + (jv - 31) * (K : Int) + (jv - 31) = q + (jv - 31) * ((K + 1 : Nat) : Int) by rw [show ((K + 1 : Nat) : Int) = (K : Int) + 1 by omega, Int.mul_add, Int.mul_one, Int.add_assoc]]
    exact this)
  rw [hSA.out.1, hSA.out.2] at CA
  rw [hSB.out.1, hSB.out.2] at CB
  have hszp : (0 : Int) < (sz : Int) := by omega
  have HL := Lib.hid (Ang.steps_law (q + (jv - 31) * (K : Int)) (jv - 31) (sz : Int) j1 j2 hszp)
  obtain ⟨t1, t2, t3, t4⟩ := ti_small (q + (jv - 31) * (K : Int))
  obtain ⟨t5, t6, t7, t8⟩ := ti_small (q + (jv - 31) * (K : Int) + (jv - 31))
  have bm : ∀ t : Int, -127 ≤ t → t ≤ 127 → -11811 ≤ t * (sz : Int) ∧ t * (sz : Int) ≤ 11811 := fun t h1 h2 => by
    have e : ov = 1 ∨ ov = 2 ∨ ov = 3 := by omega
    rcases e with rfl | rfl | rfl <;> (rw [← hsz]; simp only [Int.cast_ofNat_Int, Nat.reduceMul]; omega)
  have i1 := bm _ t1 t2
  have i2 := bm _ t3 t4
  have i3 := bm _ t5 t6
  have i4 := bm _ t7 t8
  generalize Ang.ti (q + (jv - 31) * (K : Int)) * (sz : Int) = a1 at *
  generalize Ang.tq (q + (jv - 31) * (K : Int)) * (sz : Int) = a2 at *
  generalize Ang.ti (q + (jv - 31) * (K : Int) + (jv - 31)) * (sz : Int) = a3 at *
  generalize Ang.tq (q + (jv - 31) * (K : Int) + (jv - 31)) * (sz : Int) = a4 at *
  have CR := Lib.hid (fun w => Rate_yes a1 a2 a3 a4 w (by unfold InB; omega) (by unfold InB; omega))
  have HR := Lib.hid (rate_law HL.out)
  have hfb : -2048 ≤ fullF (Ang.fineF (a1 * a3 + a2 * a4) (a1 * a4 - a2 * a3)) ∧ fullF (Ang.fineF (a1 * a3 + a2 * a4) (a1 * a4 - a2 * a3)) ≤ 2047 := by unfold fullF; omega
  generalize fullF (Ang.fineF (a1 * a3 + a2 * a4) (a1 * a4 - a2 * a3)) = R at *
  have CT3 := Lib.hid (fun w => turn_any (R - 64 * (jv - 31) + 2048) 4096 (by decide) (by decide) w)
  obtain ⟨z1', z2'⟩ := HR.out
  obtain ⟨T, hT⟩ : ∃ T, (R - 64 * (jv - 31) + 2048) % 4096 = T := ⟨_, rfl⟩
  rw [hT] at CT3 z1' z2'
  rw [hsz] at CS
  have hLs : (smpS p (D : Int) ov ph st (D + (K + 2) * sz)).length = D + (K + 2) * sz := smpS_len _ _ _ _ _ _
  rw [hLs] at CA CB
  have hdef : (List.range (D + (K + 2) * sz)).map (fun i : Nat => atF p (D : Int) ov ph st (i : Int)) = smpS p (D : Int) ov ph st (D + (K + 2) * sz) := rfl
  rw [hdef] at CM
  clear hdef hLs
  generalize smpS p (D : Int) ov ph st (D + (K + 2) * sz) = SS at *
  obtain ⟨N2, hN2⟩ : ∃ N2, (K + 2) * sz = N2 := ⟨_, rfl⟩
  obtain ⟨N1, hN1⟩ : ∃ N1, (K + 1) * sz = N1 := ⟨_, rfl⟩
  have g2 : ((K : Int) + 2) * (sz : Int) = (N2 : Int) := by rw [← hN2, Int.natCast_mul]; congr 1
  have g1' : ((K : Int) + 1) * (sz : Int) = (N1 : Int) := by rw [← hN1, Int.natCast_mul]; congr 1
  have g0 : (K : Int) * (sz : Int) = (S0 : Int) := by rw [← hS0, Int.natCast_mul]
  rw [hS0] at CA
  rw [hN2] at CM CA CB
  rw [hN1] at CB
  have r0 : S0 ≤ 465 := by omega
  have r1 : N1 ≤ 700 := by omega
  have r2 : N2 ≤ 800 := by omega
  have r3 : D ≤ 93 := by omega
  have r4 : -31 ≤ (jv - 31) ∧ (jv - 31) ≤ 31 := ⟨j1, j2⟩
  clear hsz hK3 hK4 hKs hS0 hN2 hN1 hT HL HR i1 i2 i3 i4 t1 t2 t3 t4 t5 t6 t7 t8 bm hSA hSB
  simp only [Int.natCast_add] at CM CA CB
  have HS := Lib.hid hs
  generalize l.length = ln at *
  clear hs c1 c2 c4 c6 c7 hov hpb hnz hp hn hD hba hq hK hjv hph hst
  go_enter Try.func3, Try.ntmps3
  go_wp2_with (with_reducible refine G.any_mark _ ?_; (try generalize Array.size (World.heap (G.w _)) = bk); (try dsimp only [List.set_cons_zero, List.set_cons_succ]); (try clear g); intro g)
  refine (CK.out _).mono ?_
  rintro e w1 ⟨rfl, hb⟩
  obtain ⟨g1, rfl⟩ := G.call_ex _ hb
  clear hb
  (try clear g)
  revert g1
  intro g
  go_wp2_with (with_reducible refine G.any_mark _ ?_; (try generalize Array.size (World.heap (G.w _)) = bk); (try dsimp only [List.set_cons_zero, List.set_cons_succ]); (try clear g); intro g)
  refine (CT1.out _).mono ?_
  rintro e w1 ⟨rfl, hb⟩
  obtain ⟨g1, rfl⟩ := G.call_ex _ hb
  clear hb
  (try clear g)
  revert g1
  intro g
  go_wp2_with (with_reducible refine G.any_mark _ ?_; (try generalize Array.size (World.heap (G.w _)) = bk); (try dsimp only [List.set_cons_zero, List.set_cons_succ]); (try clear g); intro g)
  refine (CT2.out _).mono ?_
  rintro e w1 ⟨rfl, hb⟩
  obtain ⟨g1, rfl⟩ := G.call_ex _ hb
  clear hb
  (try clear g)
  revert g1
  intro g
  go_wp2_with (with_reducible refine G.any_mark _ ?_; (try generalize Array.size (World.heap (G.w _)) = bk); (try dsimp only [List.set_cons_zero, List.set_cons_succ]); (try clear g); intro g)
  refine (CP.out _ (G.si g (by simp) HS.out)).mono ?_
  rintro e w1 ⟨dg, ma, mx, b, cp, F, rfl, hF, hn'⟩
  obtain ⟨g1, rfl⟩ := G.new_ex _ hn'
  clear hn' g CP CK CT1 CT2
  revert g1
  intro g
  go_wp2_with (with_reducible refine G.any_mark _ ?_; (try generalize Array.size (World.heap (G.w _)) = bk); (try dsimp only [List.set_cons_zero, List.set_cons_succ]); (try clear g); intro g)
  (try (refine cmark _ ?_; (try dsimp only [List.set_cons_zero, List.set_cons_succ]); (try clear g); intro g))
  refine (CE.out _ _ _ (G.si g (by simp) HS.out) (G.si g (by simp) hF)).mono ?_
  rintro e w1 ⟨rt, st0, vA, vn, vc, rfl, hb⟩
  obtain ⟨g1, rfl⟩ := G.call_ex _ hb
  clear hb CE g
  revert g1
  intro g
  go_wp2_with (with_reducible refine G.any_mark _ ?_; (try generalize Array.size (World.heap (G.w _)) = bk); (try dsimp only [List.set_cons_zero, List.set_cons_succ]); (try clear g); intro g)
  (try (refine cmark _ ?_; (try dsimp only [List.set_cons_zero, List.set_cons_succ]); (try clear g); intro g))
  refine (CS.out _).mono ?_
  rintro e w1 ⟨b2, cp2, F2, rfl, hF2, hn'⟩
  obtain ⟨g1, rfl⟩ := G.new_ex _ hn'
  clear hn' g CS hF2
  revert g1
  intro g
  go_wp2_with (with_reducible refine G.any_mark _ ?_; (try generalize Array.size (World.heap (G.w _)) = bk); (try dsimp only [List.set_cons_zero, List.set_cons_succ]); (try clear g); intro g)
  (try (refine cmark _ ?_; (try dsimp only [List.set_cons_zero, List.set_cons_succ]); (try clear g); intro g))
  refine (CM.out _ _ bk _ (G.si g (by simp) hF) (fun j v h => by rw [G.cell0]; exact h)).mono ?_
  rintro e w1 ⟨bs, Fs, rfl, hS, hn'⟩
  obtain ⟨g1, rfl⟩ := G.new_ex _ hn'
  clear hn' g CM
  revert g1
  intro g
  go_wp2_with (with_reducible refine G.any_mark _ ?_; (try generalize Array.size (World.heap (G.w _)) = bk); (try dsimp only [List.set_cons_zero, List.set_cons_succ]); (try clear g); intro g)
  (try (refine cmark _ ?_; (try dsimp only [List.set_cons_zero, List.set_cons_succ]); (try clear g); intro g))
  refine (CA.out _ _ _ (G.sp g (by simp) hS)).mono ?_
  rintro e w1 ⟨rfl, hb⟩
  obtain ⟨g1, rfl⟩ := G.call_ex _ hb
  clear hb CA g
  revert g1
  intro g
  go_wp2_with (with_reducible refine G.any_mark _ ?_; (try generalize Array.size (World.heap (G.w _)) = bk); (try dsimp only [List.set_cons_zero, List.set_cons_succ]); (try clear g); intro g)
  (try (refine cmark _ ?_; (try dsimp only [List.set_cons_zero, List.set_cons_succ]); (try clear g); intro g))
  refine (CB.out _ _ _ (G.sp g (by simp) hS)).mono ?_
  rintro e w1 ⟨rfl, hb⟩
  obtain ⟨g1, rfl⟩ := G.call_ex _ hb
  clear hb CB g
  revert g1
  intro g
  go_wp2_with (with_reducible refine G.any_mark _ ?_; (try generalize Array.size (World.heap (G.w _)) = bk); (try dsimp only [List.set_cons_zero, List.set_cons_succ]); (try clear g); intro g)
  (try (refine cmark _ ?_; (try dsimp only [List.set_cons_zero, List.set_cons_succ]); (try clear g); intro g))
  refine (CR.out _).mono ?_
  rintro e w1 ⟨rfl, hb⟩
  obtain ⟨g1, rfl⟩ := G.call_ex _ hb
  clear hb
  (try clear g)
  revert g1
  intro g
  go_wp2_with (with_reducible refine G.any_mark _ ?_; (try generalize Array.size (World.heap (G.w _)) = bk); (try dsimp only [List.set_cons_zero, List.set_cons_succ]); (try clear g); intro g)
  (try (refine cmark _ ?_; (try dsimp only [List.set_cons_zero, List.set_cons_succ]); (try clear g); intro g))
  refine (CT3.out _).mono ?_
  rintro e w1 ⟨rfl, hb⟩
  obtain ⟨g1, rfl⟩ := G.call_ex _ hb
  clear hb
  (try clear g)
  revert g1
  intro g
  go_wp2_with (with_reducible refine G.any_mark _ ?_; (try generalize Array.size (World.heap (G.w _)) = bk); (try dsimp only [List.set_cons_zero, List.set_cons_succ]); (try clear g); intro g)
  all_goals first
    | (go_ret; exact ⟨rfl, G.below _⟩)
    | (go_ret; refine ⟨?_, G.below _⟩; congr 2; exact decide_eq_true (by omega))
    | (go_ret; refine ⟨?_, G.below _⟩; simp; omega)
end Go.Proofs.Ytcaaecmbbbdopaa
