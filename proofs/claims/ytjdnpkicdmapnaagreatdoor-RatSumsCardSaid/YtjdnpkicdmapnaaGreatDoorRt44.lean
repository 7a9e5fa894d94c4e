/- Plain facts and contracts of functions of the program, out of walks. Their conditions stand ahead of each. -/
import Derived.Test.YtjdnpkicdmapnaaGreatDoorRt2
import Derived.Test.YtjdnpkicdmapnaaGreatDoorRt41
import Derived.Test.YtjdnpkicdmapnaaGreatDoorRt42
import Derived.Test.YtjdnpkicdmapnaaGreatDoorRt43
import Derived.Below
import Derived.BigQuiet
import Derived.Deep.Draws
import Derived.Deep.LoopGhost
import Derived.Deep.QuietTactic
import Derived.Deep.RegionHeld3
import Derived.Deep.RegionLaw
import Derived.Defers
import Derived.Laws.BytesString
import Derived.Laws.Cells
import Derived.Laws.CopyOwn
import Derived.Laws.CopyRow
import Derived.Laws.NewBlocks
import Derived.Laws.OwnMore
import Derived.Laws.Pointers
import Derived.Laws.Rows
import Derived.Lib.BitFns
import Derived.Lib.Hide
import Derived.Lib.ItoaNum
import Derived.Lib.TrailingZeros
import Derived.LoopIn
import Derived.LoopNIn
import Derived.Maps.AppendAt
import Derived.OrdersIn
import Derived.OwnWalk
import Derived.OwnWalkIn
import Derived.RangeFuncBound
import Derived.RangeFuncBox
import Derived.RangeFuncCalls
import Derived.RangeFuncLeaves
import Derived.RangeFuncNested
import Derived.RowKit3
import Derived.Shelf.Abstract
import Derived.Shelf.RegionOpen
import Derived.Shelf.Spec.TrailingZeros
import Derived.StillTactics
import Derived.StillTailTactics
import Derived.TacticsInMore
import Derived.Test.YtjdnpkicdmapnaaGreatDoorProg
import Derived.WalkKit
import Derived.WalkLawsBesides
import Derived.WalkMore
import Derived.WalkSpells
set_option linter.unusedVariables false
set_option linter.unusedSimpArgs false
set_option exponentiation.threshold 10000
namespace Go.Proofs.YtjdnpkicdmapnaaGreatDoor
open Go.RowKit GW NL
set_option maxRecDepth 20000 in
theorem both04 (s1 s2 : Bool) (A1 B1 A2 B2 : Option Addr) (c1 k1 c2 k2 : Nat) (l1 m1 l2 m2 : List Nat) (w : World) (h1 : SlW w A1 c1 l1) (j1 : SlW w B1 k1 m1) (h2 : SlW w A2 c2 l2) (j2 : SlW w B2 k2 m2) :
    Calls Tryz.prog 46 #[.agg #[.bool s1, .slice A1 l1.length c1, .slice B1 m1.length k1], .agg #[.bool s2, .slice A2 l2.length c2, .slice B2 m2.length k2]] w fun e w' => e = .returned (.int .i64 (if rchk s1 l1 m1 ≠ 0 then rchk s1 l1 m1 else rchk s2 l2 m2)) ∧ Below w.heap.size w w' := by
  refine calls_b fun g => ?_
  have CK1 := Lib.hid (fun w a b => rrcheck s1 A1 B1 c1 k1 l1 m1 w a b)
  have CK2 := Lib.hid (fun w a b => rrcheck s2 A2 B2 c2 k2 l2 m2 w a b)
  have hp := rchk_err s1 l1 m1
  generalize rchk s1 l1 m1 = x1 at *
  generalize rchk s2 l2 m2 = x2 at *
  generalize l1.length = n1 at *
  generalize m1.length = n2 at *
  generalize l2.length = n3 at *
  generalize m2.length = n4 at *
  have H1 := Lib.hid h1
  have J1 := Lib.hid j1
  have H2 := Lib.hid h2
  have J2 := Lib.hid j2
  clear h1 j1 h2 j2
  rcases hp with hp | hp | hp | hp
  · subst hp
    rw [if_neg (by decide)]
    go_enter Tryz.func46, Tryz.ntmps46
    go_wp2_with (with_reducible refine G.any_mark _ ?_; (try generalize Array.size (World.heap (G.w _)) = bk); (try dsimp only [List.set_cons_zero, List.set_cons_succ]); (try clear g); intro g)
    refine (CK1.out _ (G.sl g (by simp) H1.out) (G.sl g (by simp) J1.out)).mono ?_
    rintro e w1 ⟨rfl, hb⟩
    obtain ⟨g1, rfl⟩ := G.call_ex _ hb
    clear hb
    (try clear g)
    revert g1
    intro g
    go_wp2_with (with_reducible refine G.any_mark _ ?_; (try generalize Array.size (World.heap (G.w _)) = bk); (try dsimp only [List.set_cons_zero, List.set_cons_succ]); (try clear g); intro g)
    refine (CK2.out _ (G.sl g (by simp) H2.out) (G.sl g (by simp) J2.out)).mono ?_
    rintro e w1 ⟨rfl, hb⟩
    obtain ⟨g1, rfl⟩ := G.call_ex _ hb
    clear hb
    (try clear g)
    revert g1
    intro g
    go_wp2_with (with_reducible refine G.any_mark _ ?_; (try generalize Array.size (World.heap (G.w _)) = bk); (try dsimp only [List.set_cons_zero, List.set_cons_succ]); (try clear g); intro g)
    go_ret
    exact ⟨rfl, G.below _⟩
  all_goals
    subst hp
    rw [if_pos (by decide)]
    go_enter Tryz.func46, Tryz.ntmps46
    go_wp2_with (with_reducible refine G.any_mark _ ?_; (try generalize Array.size (World.heap (G.w _)) = bk); (try dsimp only [List.set_cons_zero, List.set_cons_succ]); (try clear g); intro g)
    refine (CK1.out _ (G.sl g (by simp) H1.out) (G.sl g (by simp) J1.out)).mono ?_
    rintro e w1 ⟨rfl, hb⟩
    obtain ⟨g1, rfl⟩ := G.call_ex _ hb
    clear hb
    (try clear g)
    revert g1
    intro g
    go_wp2_with (with_reducible refine G.any_mark _ ?_; (try generalize Array.size (World.heap (G.w _)) = bk); (try dsimp only [List.set_cons_zero, List.set_cons_succ]); (try clear g); intro g)
    go_ret
    exact ⟨rfl, G.below _⟩
theorem both_x (x y : Rat) (A1 B1 A2 B2 : Option Addr) (c1 k1 c2 k2 : Nat) (w : World) (hx : Bd 8192 x) (hy : Bd 8192 y) (h1 : SlW w A1 c1 (limbs (rn x))) (j1 : SlW w B1 k1 (limbs x.den)) (h2 : SlW w A2 c2 (limbs (rn y))) (j2 : SlW w B2 k2 (limbs y.den)) :
    Calls Tryz.prog 46 #[.agg #[.bool (rneg x), .slice A1 (limbs (rn x)).length c1, .slice B1 (limbs x.den).length k1], .agg #[.bool (rneg y), .slice A2 (limbs (rn y)).length c2, .slice B2 (limbs y.den).length k2]] w fun e w' => e = .returned (.int .i64 0) ∧ Below w.heap.size w w' := by
  have := both04 (rneg x) (rneg y) A1 B1 A2 B2 c1 k1 c2 k2 _ _ _ _ w h1 j1 h2 j2
  rwa [rchk_val0 hx, rchk_val0 hy] at this
set_option maxRecDepth 20000 in
set_option maxHeartbeats 4000000 in
theorem rOrder4_x (x y : Rat) (A1 B1 A2 B2 : Option Addr) (c1 k1 c2 k2 : Nat) (w : World) (hx : Bd 8192 x) (hy : Bd 8192 y) (h1 : SlW w A1 c1 (limbs (rn x))) (j1 : SlW w B1 k1 (limbs x.den)) (h2 : SlW w A2 c2 (limbs (rn y))) (j2 : SlW w B2 k2 (limbs y.den)) :
    Calls Tryz.prog 57 #[.agg #[.bool (rneg x), .slice A1 (limbs (rn x)).length c1, .slice B1 (limbs x.den).length k1], .agg #[.bool (rneg y), .slice A2 (limbs (rn y)).length c2, .slice B2 (limbs y.den).length k2]] w fun e w' => e = .returned (.int .i64 (sgn (x - y))) ∧ Below w.heap.size w w' := by
  refine calls_b fun g => ?_
  have CM := Lib.hid (fun w a b => rMinus_x y A2 B2 c2 k2 w a b (limbs_bd hy.1 (by decide)) (limbs_bd hy.2 (by decide)))
  have CP := Lib.hid (fun A B c k w a b d e => rPlus_x x (-y) A1 B1 A B c1 k1 c k w a b d e (limbs_bd hx.1 (by decide)) (limbs_bd hx.2 (by decide)) (limbs_bd hy.neg.1 (by decide)) (limbs_bd hy.neg.2 (by decide)))
  rw [← Rat.sub_eq_add_neg] at CP
  unfold RNf at CM CP
  have hc := sgz_cases (x - y)
  have hsg : sgn (x - y) = sgz (x - y) := rfl
  rw [hsg]
  generalize x - y = z at *
  have H1 := Lib.hid h1
  have J1 := Lib.hid j1
  have H2 := Lib.hid h2
  have J2 := Lib.hid j2
  clear h1 j1 h2 j2 hsg hx hy
  generalize rneg x = sx at *
  generalize (limbs (rn x)).length = lx at *
  generalize (limbs x.den).length = mx at *
  generalize rneg y = sy at *
  generalize (limbs (rn y)).length = ly at *
  generalize (limbs y.den).length = my at *
  generalize rneg (-y) = sn at *
  generalize (limbs (rn (-y))).length = ln at *
  generalize (limbs (-y).den).length = mn at *
  generalize (limbs z.den).length = mz at *
  have hz : (sgz z = -1 ∧ rneg z = true) ∨ (sgz z = 0 ∧ rneg z = false ∧ (limbs (rn z)).length = 0) ∨ (sgz z = 1 ∧ rneg z = false ∧ 0 < (limbs (rn z)).length) := by
    rcases hc with ⟨_, a, b, c⟩ | ⟨_, a, b, c⟩ | ⟨_, a, b, c⟩
    · exact .inl ⟨a, b⟩
    · exact .inr (.inl ⟨a, b, by rw [c]; exact limbs_len0⟩)
    · exact .inr (.inr ⟨a, b, (limbs_ne c).2⟩)
  clear hc
  generalize sgz z = q at *
  generalize rneg z = sz at *
  generalize (limbs (rn z)).length = lz at *
  rcases hz with ⟨rfl, rfl⟩ | ⟨rfl, rfl, rfl⟩ | ⟨rfl, rfl, hp⟩
  all_goals
    go_enter Tryz.func57, Tryz.ntmps57
    go_wp2_with (with_reducible refine G.any_mark _ ?_; (try generalize Array.size (World.heap (G.w _)) = bk); (try dsimp only [List.set_cons_zero, List.set_cons_succ]); (try clear g); intro g)
    go_region_held3 (G.heldN g [true, true]) (simp [G.heldN, HeldN, go_sem]) (first
      | (go_at_call 43; (with_reducible refine (CM.out _ ?_ ?_).mono ?_); (· exact G.sl _ (by simp) H2.out); (· exact G.sl _ (by simp) J2.out); rintro e w1 ⟨Am, cm, Fm, Bm, dm, Hm, rfl, hsm, htm, hnq, hmq⟩; obtain ⟨g1, rfl⟩ := G.new2_ex _ hnq hmq; clear hnq hmq; (try clear g); revert g1; intro g)
      | (go_at_call 48; (with_reducible refine (CP.out _ _ _ _ _ ?_ ?_ ?_ ?_).mono ?_); (· exact G.sl _ (by simp) H1.out); (· exact G.sl _ (by simp) J1.out); (· exact G.sl _ (by simp) hsm); (· exact G.sl _ (by simp) htm); rintro e w1 ⟨Ap, cp, Fp, Bp, dp, Hp, rfl, hsp, htp, hnq, hmq⟩; obtain ⟨g1, rfl⟩ := G.new2_ex _ hnq hmq; clear hnq hmq; (try clear g); revert g1; intro g))
    all_goals (first | ((try simp only [G.drew_eq, G.drewN_eq]); (refine G.any_mark _ ?_; (try clear g); intro g)) | skip)
    all_goals go_wp2_with (with_reducible refine G.any_mark _ ?_; (try generalize Array.size (World.heap (G.w _)) = bk); (try dsimp only [List.set_cons_zero, List.set_cons_succ]); (try clear g); intro g)
    all_goals go_ret
    all_goals exact ⟨rfl, G.below _⟩
set_option maxRecDepth 20000 in
set_option maxHeartbeats 4000000 in
theorem rAdd_x (x y : Rat) (A1 B1 A2 B2 : Option Addr) (c1 k1 c2 k2 : Nat) (w : World) (hx : Bd 8192 x) (hy : Bd 8192 y) (h1 : SlW w A1 c1 (limbs (rn x))) (j1 : SlW w B1 k1 (limbs x.den)) (h2 : SlW w A2 c2 (limbs (rn y))) (j2 : SlW w B2 k2 (limbs y.den)) :
    Calls Tryz.prog 13 #[.agg #[.bool (rneg x), .slice A1 (limbs (rn x)).length c1, .slice B1 (limbs x.den).length k1], .agg #[.bool (rneg y), .slice A2 (limbs (rn y)).length c2, .slice B2 (limbs y.den).length k2]] w (RPE (outX (x + y)) w) := by
  refine calls_b fun g => ?_
  have CK := Lib.hid (fun w a b d e => both_x x y A1 B1 A2 B2 c1 k1 c2 k2 w hx hy a b d e)
  have CD := Lib.hid (fun w a b d e => rPlus_x x y A1 B1 A2 B2 c1 k1 c2 k2 w a b d e (limbs_bd hx.1 (by decide)) (limbs_bd hx.2 (by decide)) (limbs_bd hy.1 (by decide)) (limbs_bd hy.2 (by decide)))
  unfold RNf at CD
  unfold outX outP
  generalize (x + y) = z at *
  have CF := Lib.hid (fun A B c k hn hd w => rFits_ok (rneg z) A B c k (limbs (rn z)).length (limbs z.den).length hn hd w)
  have CV := Lib.hid (fun A B c k hn w => rFits_over (rneg z) A B c k (limbs (rn z)).length (limbs z.den).length hn w)
  have H1 := Lib.hid h1
  have J1 := Lib.hid j1
  have H2 := Lib.hid h2
  have J2 := Lib.hid j2
  clear h1 j1 h2 j2 hx hy
  generalize (limbs (rn x)).length = lx at *
  generalize (limbs x.den).length = mx at *
  generalize rneg x = sx at *
  generalize (limbs (rn y)).length = ly at *
  generalize (limbs y.den).length = my at *
  generalize rneg y = sy at *
  by_cases hz : rn z < 2 ^ 8192 ∧ z.den < 2 ^ 8192
  · rw [if_pos hz]
    have hz1 := limbs_256.1 hz.1
    have hz2 := limbs_256.1 hz.2
    have CF := Lib.hid (fun A B c k w => CF.out A B c k hz1 hz2 w)
    clear hz CV hz1 hz2
    unfold RPE
    dsimp only
    generalize rneg z = sz at *
    generalize (limbs (rn z)).length = lz at *
    generalize (limbs z.den).length = mz at *
    go_enter Tryz.func13, Tryz.ntmps13
    go_wp2_with (with_reducible refine G.any_mark _ ?_; (try generalize Array.size (World.heap (G.w _)) = bk); (try dsimp only [List.set_cons_zero, List.set_cons_succ]); (try clear g); intro g)
    refine (CK.out _ (G.sl g (by simp) H1.out) (G.sl g (by simp) J1.out) (G.sl g (by simp) H2.out) (G.sl g (by simp) J2.out)).mono ?_
    rintro e w1 ⟨rfl, hb⟩
    obtain ⟨g1, rfl⟩ := G.call_ex _ hb
    clear hb
    (try clear g)
    revert g1
    intro g
    go_wp2_with (with_reducible refine G.any_mark _ ?_; (try generalize Array.size (World.heap (G.w _)) = bk); (try dsimp only [List.set_cons_zero, List.set_cons_succ]); (try clear g); intro g)
    refine (CD.out _ (G.sl g (by simp) H1.out) (G.sl g (by simp) J1.out) (G.sl g (by simp) H2.out) (G.sl g (by simp) J2.out)).mono ?_
    rintro e w1 ⟨Aq, cq, Fq, Bq, dq, Hq, rfl, hsq, htq, hn, hm⟩
    have hnnq := fun k o hk => Nat.le_trans g.chg.size (hn.new k o hk)
    have hmmq := fun k o hk => Nat.le_trans g.chg.size (hm.new k o hk)
    obtain ⟨g1, rfl⟩ := G.new2_ex _ hn hm
    clear hn hm
    (try clear g)
    revert g1
    intro g
    go_wp2_with (with_reducible refine G.any_mark _ ?_; (try generalize Array.size (World.heap (G.w _)) = bk); (try dsimp only [List.set_cons_zero, List.set_cons_succ]); (try clear g); intro g)
    refine (CF.out _ _ _ _ _).mono ?_
    rintro e w1 ⟨rfl, hb⟩
    obtain ⟨g1, rfl⟩ := G.call_ex _ hb
    clear hb
    (try clear g)
    revert g1
    intro g
    go_wp2_with (with_reducible refine G.any_mark _ ?_; (try generalize Array.size (World.heap (G.w _)) = bk); (try dsimp only [List.set_cons_zero, List.set_cons_succ]); (try clear g); intro g)
    refine bodyPost_ret (v := .tuple #[.agg #[.bool sz, .slice Aq lz cq, .slice Bq mz dq], .int .i64 0]) (by simp [results, Tryz.results13, go_sem]) rfl ?_
    exact ⟨Aq, cq, Fq, Bq, dq, Hq, rfl, hsq, htq, G.pass _ (by simp) hnnq, G.pass _ (by simp) hmmq⟩
  · rw [if_neg hz]
    have hz1 : ¬ ((limbs (rn z)).length ≤ 256 ∧ (limbs z.den).length ≤ 256) := fun h => hz ⟨limbs_256.2 h.1, limbs_256.2 h.2⟩
    have CV := Lib.hid (fun A B c k w => CV.out A B c k hz1 w)
    clear hz CF hz1
    generalize rneg z = sz at *
    generalize (limbs (rn z)).length = lz at *
    generalize (limbs z.den).length = mz at *
    go_enter Tryz.func13, Tryz.ntmps13
    go_wp2_with (with_reducible refine G.any_mark _ ?_; (try generalize Array.size (World.heap (G.w _)) = bk); (try dsimp only [List.set_cons_zero, List.set_cons_succ]); (try clear g); intro g)
    refine (CK.out _ (G.sl g (by simp) H1.out) (G.sl g (by simp) J1.out) (G.sl g (by simp) H2.out) (G.sl g (by simp) J2.out)).mono ?_
    rintro e w1 ⟨rfl, hb⟩
    obtain ⟨g1, rfl⟩ := G.call_ex _ hb
    clear hb
    (try clear g)
    revert g1
    intro g
    go_wp2_with (with_reducible refine G.any_mark _ ?_; (try generalize Array.size (World.heap (G.w _)) = bk); (try dsimp only [List.set_cons_zero, List.set_cons_succ]); (try clear g); intro g)
    refine (CD.out _ (G.sl g (by simp) H1.out) (G.sl g (by simp) J1.out) (G.sl g (by simp) H2.out) (G.sl g (by simp) J2.out)).mono ?_
    rintro e w1 ⟨Aq, cq, Fq, Bq, dq, Hq, rfl, hsq, htq, hn, hm⟩
    have hnnq := fun k o hk => Nat.le_trans g.chg.size (hn.new k o hk)
    have hmmq := fun k o hk => Nat.le_trans g.chg.size (hm.new k o hk)
    obtain ⟨g1, rfl⟩ := G.new2_ex _ hn hm
    clear hn hm
    (try clear g)
    revert g1
    intro g
    go_wp2_with (with_reducible refine G.any_mark _ ?_; (try generalize Array.size (World.heap (G.w _)) = bk); (try dsimp only [List.set_cons_zero, List.set_cons_succ]); (try clear g); intro g)
    refine (CV.out _ _ _ _ _).mono ?_
    rintro e w1 ⟨rfl, hb⟩
    obtain ⟨g1, rfl⟩ := G.call_ex _ hb
    clear hb
    (try clear g)
    revert g1
    intro g
    go_wp2_with (with_reducible refine G.any_mark _ ?_; (try generalize Array.size (World.heap (G.w _)) = bk); (try dsimp only [List.set_cons_zero, List.set_cons_succ]); (try clear g); intro g)
    refine bodyPost_ret (v := .tuple #[.agg #[.bool false, .slice none 0 0, .slice none 0 0], .int .i64 5]) (by simp [results, Tryz.results13, go_sem]) rfl ?_
    exact rpe_err _ _
set_option maxRecDepth 20000 in
set_option maxHeartbeats 4000000 in
theorem rMul_x (x y : Rat) (A1 B1 A2 B2 : Option Addr) (c1 k1 c2 k2 : Nat) (w : World) (hx : Bd 8192 x) (hy : Bd 8192 y) (h1 : SlW w A1 c1 (limbs (rn x))) (j1 : SlW w B1 k1 (limbs x.den)) (h2 : SlW w A2 c2 (limbs (rn y))) (j2 : SlW w B2 k2 (limbs y.den)) :
    Calls Tryz.prog 17 #[.agg #[.bool (rneg x), .slice A1 (limbs (rn x)).length c1, .slice B1 (limbs x.den).length k1], .agg #[.bool (rneg y), .slice A2 (limbs (rn y)).length c2, .slice B2 (limbs y.den).length k2]] w (RPE (outX (x * y)) w) := by
  refine calls_b fun g => ?_
  have CK := Lib.hid (fun w a b d e => both_x x y A1 B1 A2 B2 c1 k1 c2 k2 w hx hy a b d e)
  have CD := Lib.hid (fun w a b d e => rTimes_x x y A1 B1 A2 B2 c1 k1 c2 k2 w a b d e (limbs_bd hx.1 (by decide)) (limbs_bd hx.2 (by decide)) (limbs_bd hy.1 (by decide)) (limbs_bd hy.2 (by decide)))
  unfold RNf at CD
  unfold outX outP
  generalize (x * y) = z at *
  have CF := Lib.hid (fun A B c k hn hd w => rFits_ok (rneg z) A B c k (limbs (rn z)).length (limbs z.den).length hn hd w)
  have CV := Lib.hid (fun A B c k hn w => rFits_over (rneg z) A B c k (limbs (rn z)).length (limbs z.den).length hn w)
  have H1 := Lib.hid h1
  have J1 := Lib.hid j1
  have H2 := Lib.hid h2
  have J2 := Lib.hid j2
  clear h1 j1 h2 j2 hx hy
  generalize (limbs (rn x)).length = lx at *
  generalize (limbs x.den).length = mx at *
  generalize rneg x = sx at *
  generalize (limbs (rn y)).length = ly at *
  generalize (limbs y.den).length = my at *
  generalize rneg y = sy at *
  by_cases hz : rn z < 2 ^ 8192 ∧ z.den < 2 ^ 8192
  · rw [if_pos hz]
    have hz1 := limbs_256.1 hz.1
    have hz2 := limbs_256.1 hz.2
    have CF := Lib.hid (fun A B c k w => CF.out A B c k hz1 hz2 w)
    clear hz CV hz1 hz2
    unfold RPE
    dsimp only
    generalize rneg z = sz at *
    generalize (limbs (rn z)).length = lz at *
    generalize (limbs z.den).length = mz at *
    go_enter Tryz.func17, Tryz.ntmps17
    go_wp2_with (with_reducible refine G.any_mark _ ?_; (try generalize Array.size (World.heap (G.w _)) = bk); (try dsimp only [List.set_cons_zero, List.set_cons_succ]); (try clear g); intro g)
    refine (CK.out _ (G.sl g (by simp) H1.out) (G.sl g (by simp) J1.out) (G.sl g (by simp) H2.out) (G.sl g (by simp) J2.out)).mono ?_
    rintro e w1 ⟨rfl, hb⟩
    obtain ⟨g1, rfl⟩ := G.call_ex _ hb
    clear hb
    (try clear g)
    revert g1
    intro g
    go_wp2_with (with_reducible refine G.any_mark _ ?_; (try generalize Array.size (World.heap (G.w _)) = bk); (try dsimp only [List.set_cons_zero, List.set_cons_succ]); (try clear g); intro g)
    refine (CD.out _ (G.sl g (by simp) H1.out) (G.sl g (by simp) J1.out) (G.sl g (by simp) H2.out) (G.sl g (by simp) J2.out)).mono ?_
    rintro e w1 ⟨Aq, cq, Fq, Bq, dq, Hq, rfl, hsq, htq, hn, hm⟩
    have hnnq := fun k o hk => Nat.le_trans g.chg.size (hn.new k o hk)
    have hmmq := fun k o hk => Nat.le_trans g.chg.size (hm.new k o hk)
    obtain ⟨g1, rfl⟩ := G.new2_ex _ hn hm
    clear hn hm
    (try clear g)
    revert g1
    intro g
    go_wp2_with (with_reducible refine G.any_mark _ ?_; (try generalize Array.size (World.heap (G.w _)) = bk); (try dsimp only [List.set_cons_zero, List.set_cons_succ]); (try clear g); intro g)
    refine (CF.out _ _ _ _ _).mono ?_
    rintro e w1 ⟨rfl, hb⟩
    obtain ⟨g1, rfl⟩ := G.call_ex _ hb
    clear hb
    (try clear g)
    revert g1
    intro g
    go_wp2_with (with_reducible refine G.any_mark _ ?_; (try generalize Array.size (World.heap (G.w _)) = bk); (try dsimp only [List.set_cons_zero, List.set_cons_succ]); (try clear g); intro g)
    refine bodyPost_ret (v := .tuple #[.agg #[.bool sz, .slice Aq lz cq, .slice Bq mz dq], .int .i64 0]) (by simp [results, Tryz.results17, go_sem]) rfl ?_
    exact ⟨Aq, cq, Fq, Bq, dq, Hq, rfl, hsq, htq, G.pass _ (by simp) hnnq, G.pass _ (by simp) hmmq⟩
  · rw [if_neg hz]
    have hz1 : ¬ ((limbs (rn z)).length ≤ 256 ∧ (limbs z.den).length ≤ 256) := fun h => hz ⟨limbs_256.2 h.1, limbs_256.2 h.2⟩
    have CV := Lib.hid (fun A B c k w => CV.out A B c k hz1 w)
    clear hz CF hz1
    generalize rneg z = sz at *
    generalize (limbs (rn z)).length = lz at *
    generalize (limbs z.den).length = mz at *
    go_enter Tryz.func17, Tryz.ntmps17
    go_wp2_with (with_reducible refine G.any_mark _ ?_; (try generalize Array.size (World.heap (G.w _)) = bk); (try dsimp only [List.set_cons_zero, List.set_cons_succ]); (try clear g); intro g)
    refine (CK.out _ (G.sl g (by simp) H1.out) (G.sl g (by simp) J1.out) (G.sl g (by simp) H2.out) (G.sl g (by simp) J2.out)).mono ?_
    rintro e w1 ⟨rfl, hb⟩
    obtain ⟨g1, rfl⟩ := G.call_ex _ hb
    clear hb
    (try clear g)
    revert g1
    intro g
    go_wp2_with (with_reducible refine G.any_mark _ ?_; (try generalize Array.size (World.heap (G.w _)) = bk); (try dsimp only [List.set_cons_zero, List.set_cons_succ]); (try clear g); intro g)
    refine (CD.out _ (G.sl g (by simp) H1.out) (G.sl g (by simp) J1.out) (G.sl g (by simp) H2.out) (G.sl g (by simp) J2.out)).mono ?_
    rintro e w1 ⟨Aq, cq, Fq, Bq, dq, Hq, rfl, hsq, htq, hn, hm⟩
    have hnnq := fun k o hk => Nat.le_trans g.chg.size (hn.new k o hk)
    have hmmq := fun k o hk => Nat.le_trans g.chg.size (hm.new k o hk)
    obtain ⟨g1, rfl⟩ := G.new2_ex _ hn hm
    clear hn hm
    (try clear g)
    revert g1
    intro g
    go_wp2_with (with_reducible refine G.any_mark _ ?_; (try generalize Array.size (World.heap (G.w _)) = bk); (try dsimp only [List.set_cons_zero, List.set_cons_succ]); (try clear g); intro g)
    refine (CV.out _ _ _ _ _).mono ?_
    rintro e w1 ⟨rfl, hb⟩
    obtain ⟨g1, rfl⟩ := G.call_ex _ hb
    clear hb
    (try clear g)
    revert g1
    intro g
    go_wp2_with (with_reducible refine G.any_mark _ ?_; (try generalize Array.size (World.heap (G.w _)) = bk); (try dsimp only [List.set_cons_zero, List.set_cons_succ]); (try clear g); intro g)
    refine bodyPost_ret (v := .tuple #[.agg #[.bool false, .slice none 0 0, .slice none 0 0], .int .i64 5]) (by simp [results, Tryz.results17, go_sem]) rfl ?_
    exact rpe_err _ _
set_option maxRecDepth 20000 in
set_option maxHeartbeats 4000000 in
theorem rDiv_x (x y : Rat) (A1 B1 A2 B2 : Option Addr) (c1 k1 c2 k2 : Nat) (w : World) (hx : Bd 8192 x) (hy : Bd 8192 y) (h1 : SlW w A1 c1 (limbs (rn x))) (j1 : SlW w B1 k1 (limbs x.den)) (h2 : SlW w A2 c2 (limbs (rn y))) (j2 : SlW w B2 k2 (limbs y.den)) (h0 : rn y ≠ 0) :
    Calls Tryz.prog 19 #[.agg #[.bool (rneg x), .slice A1 (limbs (rn x)).length c1, .slice B1 (limbs x.den).length k1], .agg #[.bool (rneg y), .slice A2 (limbs (rn y)).length c2, .slice B2 (limbs y.den).length k2]] w (RPE (outX (x / y)) w) := by
  refine calls_b fun g => ?_
  have CK := Lib.hid (fun w a b d e => both_x x y A1 B1 A2 B2 c1 k1 c2 k2 w hx hy a b d e)
  have CD := Lib.hid (fun w a b d e => rOver_x x y h0 A1 B1 A2 B2 c1 k1 c2 k2 w a b d e (limbs_bd hx.1 (by decide)) (limbs_bd hx.2 (by decide)) (limbs_bd hy.1 (by decide)) (limbs_bd hy.2 (by decide)))
  unfold RNf at CD
  unfold outX outP
  generalize (x / y) = z at *
  have CF := Lib.hid (fun A B c k hn hd w => rFits_ok (rneg z) A B c k (limbs (rn z)).length (limbs z.den).length hn hd w)
  have CV := Lib.hid (fun A B c k hn w => rFits_over (rneg z) A B c k (limbs (rn z)).length (limbs z.den).length hn w)
  have H1 := Lib.hid h1
  have J1 := Lib.hid j1
  have H2 := Lib.hid h2
  have J2 := Lib.hid j2
  have hl0 : ((((limbs (rn y)).length : Nat) : Int) == 0) = false := by
    have := (limbs_ne h0).2
    rw [beq_eq_false_iff_ne]; omega
  clear h0
  clear h1 j1 h2 j2 hx hy
  generalize (limbs (rn x)).length = lx at *
  generalize (limbs x.den).length = mx at *
  generalize rneg x = sx at *
  generalize (limbs (rn y)).length = ly at *
  generalize (limbs y.den).length = my at *
  generalize rneg y = sy at *
  by_cases hz : rn z < 2 ^ 8192 ∧ z.den < 2 ^ 8192
  · rw [if_pos hz]
    have hz1 := limbs_256.1 hz.1
    have hz2 := limbs_256.1 hz.2
    have CF := Lib.hid (fun A B c k w => CF.out A B c k hz1 hz2 w)
    clear hz CV hz1 hz2
    unfold RPE
    dsimp only
    generalize rneg z = sz at *
    generalize (limbs (rn z)).length = lz at *
    generalize (limbs z.den).length = mz at *
    go_enter Tryz.func19, Tryz.ntmps19
    go_wp2_with (with_reducible refine G.any_mark _ ?_; (try generalize Array.size (World.heap (G.w _)) = bk); (try dsimp only [List.set_cons_zero, List.set_cons_succ]); (try clear g); intro g)
    refine (CK.out _ (G.sl g (by simp) H1.out) (G.sl g (by simp) J1.out) (G.sl g (by simp) H2.out) (G.sl g (by simp) J2.out)).mono ?_
    rintro e w1 ⟨rfl, hb⟩
    obtain ⟨g1, rfl⟩ := G.call_ex _ hb
    clear hb
    (try clear g)
    revert g1
    intro g
    go_wp2_with (with_reducible refine G.any_mark _ ?_; (try generalize Array.size (World.heap (G.w _)) = bk); (try dsimp only [List.set_cons_zero, List.set_cons_succ]); (try clear g); intro g)
    refine (CD.out _ (G.sl g (by simp) H1.out) (G.sl g (by simp) J1.out) (G.sl g (by simp) H2.out) (G.sl g (by simp) J2.out)).mono ?_
    rintro e w1 ⟨Aq, cq, Fq, Bq, dq, Hq, rfl, hsq, htq, hn, hm⟩
    have hnnq := fun k o hk => Nat.le_trans g.chg.size (hn.new k o hk)
    have hmmq := fun k o hk => Nat.le_trans g.chg.size (hm.new k o hk)
    obtain ⟨g1, rfl⟩ := G.new2_ex _ hn hm
    clear hn hm
    (try clear g)
    revert g1
    intro g
    go_wp2_with (with_reducible refine G.any_mark _ ?_; (try generalize Array.size (World.heap (G.w _)) = bk); (try dsimp only [List.set_cons_zero, List.set_cons_succ]); (try clear g); intro g)
    refine (CF.out _ _ _ _ _).mono ?_
    rintro e w1 ⟨rfl, hb⟩
    obtain ⟨g1, rfl⟩ := G.call_ex _ hb
    clear hb
    (try clear g)
    revert g1
    intro g
    go_wp2_with (with_reducible refine G.any_mark _ ?_; (try generalize Array.size (World.heap (G.w _)) = bk); (try dsimp only [List.set_cons_zero, List.set_cons_succ]); (try clear g); intro g)
    refine bodyPost_ret (v := .tuple #[.agg #[.bool sz, .slice Aq lz cq, .slice Bq mz dq], .int .i64 0]) (by simp [results, Tryz.results19, go_sem]) rfl ?_
    exact ⟨Aq, cq, Fq, Bq, dq, Hq, rfl, hsq, htq, G.pass _ (by simp) hnnq, G.pass _ (by simp) hmmq⟩
  · rw [if_neg hz]
    have hz1 : ¬ ((limbs (rn z)).length ≤ 256 ∧ (limbs z.den).length ≤ 256) := fun h => hz ⟨limbs_256.2 h.1, limbs_256.2 h.2⟩
    have CV := Lib.hid (fun A B c k w => CV.out A B c k hz1 w)
    clear hz CF hz1
    generalize rneg z = sz at *
    generalize (limbs (rn z)).length = lz at *
    generalize (limbs z.den).length = mz at *
    go_enter Tryz.func19, Tryz.ntmps19
    go_wp2_with (with_reducible refine G.any_mark _ ?_; (try generalize Array.size (World.heap (G.w _)) = bk); (try dsimp only [List.set_cons_zero, List.set_cons_succ]); (try clear g); intro g)
    refine (CK.out _ (G.sl g (by simp) H1.out) (G.sl g (by simp) J1.out) (G.sl g (by simp) H2.out) (G.sl g (by simp) J2.out)).mono ?_
    rintro e w1 ⟨rfl, hb⟩
    obtain ⟨g1, rfl⟩ := G.call_ex _ hb
    clear hb
    (try clear g)
    revert g1
    intro g
    go_wp2_with (with_reducible refine G.any_mark _ ?_; (try generalize Array.size (World.heap (G.w _)) = bk); (try dsimp only [List.set_cons_zero, List.set_cons_succ]); (try clear g); intro g)
    refine (CD.out _ (G.sl g (by simp) H1.out) (G.sl g (by simp) J1.out) (G.sl g (by simp) H2.out) (G.sl g (by simp) J2.out)).mono ?_
    rintro e w1 ⟨Aq, cq, Fq, Bq, dq, Hq, rfl, hsq, htq, hn, hm⟩
    have hnnq := fun k o hk => Nat.le_trans g.chg.size (hn.new k o hk)
    have hmmq := fun k o hk => Nat.le_trans g.chg.size (hm.new k o hk)
    obtain ⟨g1, rfl⟩ := G.new2_ex _ hn hm
    clear hn hm
    (try clear g)
    revert g1
    intro g
    go_wp2_with (with_reducible refine G.any_mark _ ?_; (try generalize Array.size (World.heap (G.w _)) = bk); (try dsimp only [List.set_cons_zero, List.set_cons_succ]); (try clear g); intro g)
    refine (CV.out _ _ _ _ _).mono ?_
    rintro e w1 ⟨rfl, hb⟩
    obtain ⟨g1, rfl⟩ := G.call_ex _ hb
    clear hb
    (try clear g)
    revert g1
    intro g
    go_wp2_with (with_reducible refine G.any_mark _ ?_; (try generalize Array.size (World.heap (G.w _)) = bk); (try dsimp only [List.set_cons_zero, List.set_cons_succ]); (try clear g); intro g)
    refine bodyPost_ret (v := .tuple #[.agg #[.bool false, .slice none 0 0, .slice none 0 0], .int .i64 5]) (by simp [results, Tryz.results19, go_sem]) rfl ?_
    exact rpe_err _ _
set_option maxRecDepth 20000 in
set_option maxHeartbeats 4000000 in
theorem rSub_x (x y : Rat) (A1 B1 A2 B2 : Option Addr) (c1 k1 c2 k2 : Nat) (w : World) (hx : Bd 8192 x) (hy : Bd 8192 y) (h1 : SlW w A1 c1 (limbs (rn x))) (j1 : SlW w B1 k1 (limbs x.den)) (h2 : SlW w A2 c2 (limbs (rn y))) (j2 : SlW w B2 k2 (limbs y.den)) :
    Calls Tryz.prog 15 #[.agg #[.bool (rneg x), .slice A1 (limbs (rn x)).length c1, .slice B1 (limbs x.den).length k1], .agg #[.bool (rneg y), .slice A2 (limbs (rn y)).length c2, .slice B2 (limbs y.den).length k2]] w (RPE (outX (x - y)) w) := by
  refine calls_b fun g => ?_
  have CK := Lib.hid (fun w a b d e => both_x x y A1 B1 A2 B2 c1 k1 c2 k2 w hx hy a b d e)
  have CD := Lib.hid (fun A2' B2' c2' k2' w a b d e => rPlus_x x (-y) A1 B1 A2' B2' c1 k1 c2' k2' w a b d e (limbs_bd hx.1 (by decide)) (limbs_bd hx.2 (by decide)) (limbs_bd hy.neg.1 (by decide)) (limbs_bd hy.neg.2 (by decide)))
  have CM := Lib.hid (fun w a b => rMinus_x y A2 B2 c2 k2 w a b (limbs_bd hy.1 (by decide)) (limbs_bd hy.2 (by decide)))
  rw [← Rat.sub_eq_add_neg] at CD
  unfold RNf at CD CM
  unfold outX outP
  generalize (x - y) = z at *
  have CF := Lib.hid (fun A B c k hn hd w => rFits_ok (rneg z) A B c k (limbs (rn z)).length (limbs z.den).length hn hd w)
  have CV := Lib.hid (fun A B c k hn w => rFits_over (rneg z) A B c k (limbs (rn z)).length (limbs z.den).length hn w)
  have H1 := Lib.hid h1
  have J1 := Lib.hid j1
  have H2 := Lib.hid h2
  have J2 := Lib.hid j2
  clear h1 j1 h2 j2 hx hy
  generalize (limbs (rn x)).length = lx at *
  generalize (limbs x.den).length = mx at *
  generalize rneg x = sx at *
  generalize (limbs (rn y)).length = ly at *
  generalize (limbs y.den).length = my at *
  generalize rneg y = sy at *
  generalize rneg (-y) = sn at *
  generalize (limbs (rn (-y))).length = ln at *
  generalize (limbs (-y).den).length = mn at *
  by_cases hz : rn z < 2 ^ 8192 ∧ z.den < 2 ^ 8192
  · rw [if_pos hz]
    have hz1 := limbs_256.1 hz.1
    have hz2 := limbs_256.1 hz.2
    have CF := Lib.hid (fun A B c k w => CF.out A B c k hz1 hz2 w)
    clear hz CV hz1 hz2
    unfold RPE
    dsimp only
    generalize rneg z = sz at *
    generalize (limbs (rn z)).length = lz at *
    generalize (limbs z.den).length = mz at *
    go_enter Tryz.func15, Tryz.ntmps15
    go_wp2_with (with_reducible refine G.any_mark _ ?_; (try generalize Array.size (World.heap (G.w _)) = bk); (try dsimp only [List.set_cons_zero, List.set_cons_succ]); (try clear g); intro g)
    refine (CK.out _ (G.sl g (by simp) H1.out) (G.sl g (by simp) J1.out) (G.sl g (by simp) H2.out) (G.sl g (by simp) J2.out)).mono ?_
    rintro e w1 ⟨rfl, hb⟩
    obtain ⟨g1, rfl⟩ := G.call_ex _ hb
    clear hb
    (try clear g)
    revert g1
    intro g
    go_wp2_with (with_reducible refine G.any_mark _ ?_; (try generalize Array.size (World.heap (G.w _)) = bk); (try dsimp only [List.set_cons_zero, List.set_cons_succ]); (try clear g); intro g)
    go_region_held3 (G.heldN g [false, true, true]) (simp [G.heldN, HeldN, go_sem]) (first
      | (go_at_call 43; (with_reducible refine (CM.out _ ?_ ?_).mono ?_); (· exact G.sl _ (by simp) H2.out); (· exact G.sl _ (by simp) J2.out); rintro e w1 ⟨Am, cm, Fm, Bm, dm, Hm, rfl, hsm, htm, hnq, hmq⟩; obtain ⟨g1, rfl⟩ := G.new2_ex _ hnq hmq; clear hnq hmq; (try clear g); revert g1; intro g)
      | (go_at_call 48; (with_reducible refine (CD.out _ _ _ _ _ ?_ ?_ ?_ ?_).mono ?_); (· exact G.sl _ (by simp) H1.out); (· exact G.sl _ (by simp) J1.out); (· exact G.sl _ (by simp) hsm); (· exact G.sl _ (by simp) htm); rintro e w1 ⟨Aq, cq, Fq, Bq, dq, Hq, rfl, hsq, htq, hnq, hmq⟩; have hnnq := fun k o hk => Nat.le_trans (G.chg _).size (hnq.new k o hk); have hmmq := fun k o hk => Nat.le_trans (G.chg _).size (hmq.new k o hk); obtain ⟨g1, rfl⟩ := G.new2_ex _ hnq hmq; clear hnq hmq; (try clear g); revert g1; intro g)
      | (go_at_call 47; (with_reducible refine (CF.out _ _ _ _ _).mono ?_); rintro e w1 ⟨rfl, hb⟩; obtain ⟨g1, rfl⟩ := G.call_ex _ hb; clear hb; (try clear g); revert g1; intro g))
    all_goals (first | ((try simp only [G.drew_eq, G.drewN_eq]); (refine G.any_mark _ ?_; (try clear g); intro g)) | skip)
    all_goals go_wp2_with (with_reducible refine G.any_mark _ ?_; (try generalize Array.size (World.heap (G.w _)) = bk); (try dsimp only [List.set_cons_zero, List.set_cons_succ]); (try clear g); intro g)
    all_goals refine bodyPost_ret (v := .tuple #[.agg #[.bool sz, .slice Aq lz cq, .slice Bq mz dq], .int .i64 0]) (by simp [results, Tryz.results15, go_sem]) rfl ?_
    all_goals exact ⟨Aq, cq, Fq, Bq, dq, Hq, rfl, hsq, htq, G.pass _ (by simp) hnnq, G.pass _ (by simp) hmmq⟩
  · rw [if_neg hz]
    have hz1 : ¬ ((limbs (rn z)).length ≤ 256 ∧ (limbs z.den).length ≤ 256) := fun h => hz ⟨limbs_256.2 h.1, limbs_256.2 h.2⟩
    have CV := Lib.hid (fun A B c k w => CV.out A B c k hz1 w)
    clear hz CF hz1
    generalize rneg z = sz at *
    generalize (limbs (rn z)).length = lz at *
    generalize (limbs z.den).length = mz at *
    go_enter Tryz.func15, Tryz.ntmps15
    go_wp2_with (with_reducible refine G.any_mark _ ?_; (try generalize Array.size (World.heap (G.w _)) = bk); (try dsimp only [List.set_cons_zero, List.set_cons_succ]); (try clear g); intro g)
    refine (CK.out _ (G.sl g (by simp) H1.out) (G.sl g (by simp) J1.out) (G.sl g (by simp) H2.out) (G.sl g (by simp) J2.out)).mono ?_
    rintro e w1 ⟨rfl, hb⟩
    obtain ⟨g1, rfl⟩ := G.call_ex _ hb
    clear hb
    (try clear g)
    revert g1
    intro g
    go_wp2_with (with_reducible refine G.any_mark _ ?_; (try generalize Array.size (World.heap (G.w _)) = bk); (try dsimp only [List.set_cons_zero, List.set_cons_succ]); (try clear g); intro g)
    go_region_held3 (G.heldN g [false, true, true]) (simp [G.heldN, HeldN, go_sem]) (first
      | (go_at_call 43; (with_reducible refine (CM.out _ ?_ ?_).mono ?_); (· exact G.sl _ (by simp) H2.out); (· exact G.sl _ (by simp) J2.out); rintro e w1 ⟨Am, cm, Fm, Bm, dm, Hm, rfl, hsm, htm, hnq, hmq⟩; obtain ⟨g1, rfl⟩ := G.new2_ex _ hnq hmq; clear hnq hmq; (try clear g); revert g1; intro g)
      | (go_at_call 48; (with_reducible refine (CD.out _ _ _ _ _ ?_ ?_ ?_ ?_).mono ?_); (· exact G.sl _ (by simp) H1.out); (· exact G.sl _ (by simp) J1.out); (· exact G.sl _ (by simp) hsm); (· exact G.sl _ (by simp) htm); rintro e w1 ⟨Aq, cq, Fq, Bq, dq, Hq, rfl, hsq, htq, hnq, hmq⟩; have hnnq := fun k o hk => Nat.le_trans (G.chg _).size (hnq.new k o hk); have hmmq := fun k o hk => Nat.le_trans (G.chg _).size (hmq.new k o hk); obtain ⟨g1, rfl⟩ := G.new2_ex _ hnq hmq; clear hnq hmq; (try clear g); revert g1; intro g)
      | (go_at_call 47; (with_reducible refine (CV.out _ _ _ _ _).mono ?_); rintro e w1 ⟨rfl, hb⟩; obtain ⟨g1, rfl⟩ := G.call_ex _ hb; clear hb; (try clear g); revert g1; intro g))
    all_goals (first | ((try simp only [G.drew_eq, G.drewN_eq]); (refine G.any_mark _ ?_; (try clear g); intro g)) | skip)
    all_goals go_wp2_with (with_reducible refine G.any_mark _ ?_; (try generalize Array.size (World.heap (G.w _)) = bk); (try dsimp only [List.set_cons_zero, List.set_cons_succ]); (try clear g); intro g)
    all_goals refine bodyPost_ret (v := .tuple #[.agg #[.bool false, .slice none 0 0, .slice none 0 0], .int .i64 5]) (by simp [results, Tryz.results15, go_sem]) rfl ?_
    all_goals exact rpe_err _ _
set_option maxRecDepth 20000 in
set_option maxHeartbeats 4000000 in
theorem rNeg_x (x : Rat) (A B : Option Addr) (c k : Nat) (w : World) (hx : Bd 8192 x) (h1 : SlW w A c (limbs (rn x))) (j1 : SlW w B k (limbs x.den)) :
    Calls Tryz.prog 11 #[.agg #[.bool (rneg x), .slice A (limbs (rn x)).length c, .slice B (limbs x.den).length k]] w (RPE (outX (-x)) w) := by
  refine calls_b fun g => ?_
  have CK := Lib.hid (fun w a b => rrcheck (rneg x) A B c k (limbs (rn x)) (limbs x.den) w a b)
  rw [rchk_val0 hx] at CK
  have CD := Lib.hid (fun w a b => rMinus_x x A B c k w a b (limbs_bd hx.1 (by decide)) (limbs_bd hx.2 (by decide)))
  unfold RNf at CD
  rw [outX_bd hx.neg]
  unfold RPE
  dsimp only
  generalize (-x) = z at *
  have H1 := Lib.hid h1
  have J1 := Lib.hid j1
  clear h1 j1 hx
  generalize (limbs (rn x)).length = lx at *
  generalize (limbs x.den).length = mx at *
  generalize rneg x = sx at *
  generalize rneg z = sz at *
  generalize (limbs (rn z)).length = lz at *
  generalize (limbs z.den).length = mz at *
  go_enter Tryz.func11, Tryz.ntmps11
  go_wp2_with (with_reducible refine G.any_mark _ ?_; (try generalize Array.size (World.heap (G.w _)) = bk); (try dsimp only [List.set_cons_zero, List.set_cons_succ]); (try clear g); intro g)
  refine (CK.out _ (G.sl g (by simp) H1.out) (G.sl g (by simp) J1.out)).mono ?_
  rintro e w1 ⟨rfl, hb⟩
  obtain ⟨g1, rfl⟩ := G.call_ex _ hb
  clear hb
  (try clear g)
  revert g1
  intro g
  go_wp2_with (with_reducible refine G.any_mark _ ?_; (try generalize Array.size (World.heap (G.w _)) = bk); (try dsimp only [List.set_cons_zero, List.set_cons_succ]); (try clear g); intro g)
  refine (CD.out _ (G.sl g (by simp) H1.out) (G.sl g (by simp) J1.out)).mono ?_
  rintro e w1 ⟨Aq, cq, Fq, Bq, dq, Hq, rfl, hsq, htq, hn, hm⟩
  have hnnq := fun k o hk => Nat.le_trans g.chg.size (hn.new k o hk)
  have hmmq := fun k o hk => Nat.le_trans g.chg.size (hm.new k o hk)
  obtain ⟨g1, rfl⟩ := G.new2_ex _ hn hm
  clear hn hm
  (try clear g)
  revert g1
  intro g
  go_wp2_with (with_reducible refine G.any_mark _ ?_; (try generalize Array.size (World.heap (G.w _)) = bk); (try dsimp only [List.set_cons_zero, List.set_cons_succ]); (try clear g); intro g)
  refine bodyPost_ret (v := .tuple #[.agg #[.bool sz, .slice Aq lz cq, .slice Bq mz dq], .int .i64 0]) (by simp [results, Tryz.results11, go_sem]) rfl ?_
  exact ⟨Aq, cq, Fq, Bq, dq, Hq, rfl, hsq, htq, G.pass _ (by simp) hnnq, G.pass _ (by simp) hmmq⟩
theorem err_two {a b : Int} (ha : a = 0 ∨ a = 3 ∨ a = 4 ∨ a = 6) (hb : b = 0 ∨ b = 3 ∨ b = 4 ∨ b = 6) : (if a ≠ 0 then a else b) = 0 ∨ (if a ≠ 0 then a else b) = 3 ∨ (if a ≠ 0 then a else b) = 4 ∨ (if a ≠ 0 then a else b) = 6 := by
  split
  · exact ha
  · exact hb
theorem out2_err (a b : Int) (r : Bool × Nat × Nat × Int) (h : (if a ≠ 0 then a else b) ≠ 0) : out2 a b r = (false, 0, 0, (if a ≠ 0 then a else b)) := by
  unfold out2
  by_cases ha : a ≠ 0
  · rw [if_pos ha, if_pos ha]
  · rw [if_neg ha] at h ⊢
    rw [if_pos h, if_neg ha]
set_option maxRecDepth 20000 in
theorem rDiv_z (x y : Rat) (A1 B1 A2 B2 : Option Addr) (c1 k1 c2 k2 : Nat) (w : World) (hx : Bd 8192 x) (hy : Bd 8192 y) (h1 : SlW w A1 c1 (limbs (rn x))) (j1 : SlW w B1 k1 (limbs x.den)) (h2 : SlW w A2 c2 (limbs (rn y))) (j2 : SlW w B2 k2 (limbs y.den)) (h0 : rn y = 0) :
    Calls Tryz.prog 19 #[.agg #[.bool (rneg x), .slice A1 (limbs (rn x)).length c1, .slice B1 (limbs x.den).length k1], .agg #[.bool (rneg y), .slice A2 (limbs (rn y)).length c2, .slice B2 (limbs y.den).length k2]] w (RPE (false, 0, 0, 6) w) := by
  refine calls_b fun g => ?_
  have CK := Lib.hid (fun w a b d e => both_x x y A1 B1 A2 B2 c1 k1 c2 k2 w hx hy a b d e)
  have hl0 : (limbs (rn y)).length = 0 := by rw [h0]; exact limbs_len0
  rw [hl0] at CK ⊢
  have H1 := Lib.hid h1
  have J1 := Lib.hid j1
  have H2 := Lib.hid h2
  have J2 := Lib.hid j2
  clear h1 j1 h2 j2 hx hy h0 hl0
  generalize (limbs (rn x)).length = lx at *
  generalize (limbs x.den).length = mx at *
  generalize (limbs y.den).length = my at *
  go_enter Tryz.func19, Tryz.ntmps19
  go_wp2_with (with_reducible refine G.any_mark _ ?_; (try generalize Array.size (World.heap (G.w _)) = bk); (try dsimp only [List.set_cons_zero, List.set_cons_succ]); (try clear g); intro g)
  refine (CK.out _ (G.sl g (by simp) H1.out) (G.sl g (by simp) J1.out) (G.sl g (by simp) H2.out) (G.sl g (by simp) J2.out)).mono ?_
  rintro e w1 ⟨rfl, hb⟩
  obtain ⟨g1, rfl⟩ := G.call_ex _ hb
  clear hb
  (try clear g)
  revert g1
  intro g
  go_wp2_with (with_reducible refine G.any_mark _ ?_; (try generalize Array.size (World.heap (G.w _)) = bk); (try dsimp only [List.set_cons_zero, List.set_cons_succ]); (try clear g); intro g)
  refine bodyPost_ret (v := .tuple #[.agg #[.bool false, .slice none 0 0, .slice none 0 0], _]) (by simp [results, Tryz.results19, go_sem]; rfl) rfl ?_
  exact rpe_err _ _
set_option maxRecDepth 20000 in
theorem rAdd_e (s1 s2 : Bool) (A1 B1 A2 B2 : Option Addr) (c1 k1 c2 k2 : Nat) (l1 m1 l2 m2 : List Nat) (w : World) (h1 : SlW w A1 c1 l1) (j1 : SlW w B1 k1 m1) (h2 : SlW w A2 c2 l2) (j2 : SlW w B2 k2 m2) (h : (if rchk s1 l1 m1 ≠ 0 then rchk s1 l1 m1 else rchk s2 l2 m2) ≠ 0) :
    Calls Tryz.prog 13 #[.agg #[.bool s1, .slice A1 l1.length c1, .slice B1 m1.length k1], .agg #[.bool s2, .slice A2 l2.length c2, .slice B2 m2.length k2]] w (RPE (false, 0, 0, (if rchk s1 l1 m1 ≠ 0 then rchk s1 l1 m1 else rchk s2 l2 m2)) w) := by
  refine calls_b fun g => ?_
  have CK := Lib.hid (fun w a b d e => both04 s1 s2 A1 B1 A2 B2 c1 k1 c2 k2 l1 m1 l2 m2 w a b d e)
  have hp := err_two (rchk_err s1 l1 m1) (rchk_err s2 l2 m2)
  generalize (if rchk s1 l1 m1 ≠ 0 then rchk s1 l1 m1 else rchk s2 l2 m2) = x at *
  generalize l1.length = n1 at *
  generalize m1.length = n2 at *
  generalize l2.length = n3 at *
  generalize m2.length = n4 at *
  rcases hp with hp | hp | hp | hp
  · exact absurd hp h
  all_goals
    subst hp
    clear h
    go_enter Tryz.func13, Tryz.ntmps13
    go_wp2_with (with_reducible refine G.any_mark _ ?_; (try generalize Array.size (World.heap (G.w _)) = bk); (try dsimp only [List.set_cons_zero, List.set_cons_succ]); (try clear g); intro g)
    refine (CK.out _ (G.sl g (by simp) h1) (G.sl g (by simp) j1) (G.sl g (by simp) h2) (G.sl g (by simp) j2)).mono ?_
    rintro e w1 ⟨rfl, hb⟩
    obtain ⟨g1, rfl⟩ := G.call_ex _ hb
    clear hb
    (try clear g)
    revert g1
    intro g
    go_wp2_with (with_reducible refine G.any_mark _ ?_; (try generalize Array.size (World.heap (G.w _)) = bk); (try dsimp only [List.set_cons_zero, List.set_cons_succ]); (try clear g); intro g)
    refine bodyPost_ret (v := .tuple #[.agg #[.bool false, .slice none 0 0, .slice none 0 0], _]) (by simp [results, Tryz.results13, go_sem]; rfl) rfl ?_
    exact rpe_err _ _
theorem rAdd4_any (s1 s2 : Bool) (A1 B1 A2 B2 : Option Addr) (c1 k1 c2 k2 : Nat) (l1 m1 l2 m2 : List Nat) (w : World) (h1 : SlW w A1 c1 l1) (j1 : SlW w B1 k1 m1) (h2 : SlW w A2 c2 l2) (j2 : SlW w B2 k2 m2) :
    Calls Tryz.prog 13 #[.agg #[.bool s1, .slice A1 l1.length c1, .slice B1 m1.length k1], .agg #[.bool s2, .slice A2 l2.length c2, .slice B2 m2.length k2]] w (RPE (out2 (rchk s1 l1 m1) (rchk s2 l2 m2) (outX (fr s1 l1 m1 + fr s2 l2 m2))) w) := by
  by_cases h : (if rchk s1 l1 m1 ≠ 0 then rchk s1 l1 m1 else rchk s2 l2 m2) = 0
  · have e1 : rchk s1 l1 m1 = 0 := by
      by_cases h1 : rchk s1 l1 m1 = 0
      · exact h1
      · rw [if_pos h1] at h; exact h
    have e2 : rchk s2 l2 m2 = 0 := by rwa [if_neg (by simpa using e1)] at h
    unfold out2
    rw [if_neg (by simpa using e1), if_neg (by simpa using e2)]
    obtain ⟨x, rfl, rfl, rfl, hx⟩ := rchk_val h1.ok j1.ok e1
    obtain ⟨y, rfl, rfl, rfl, hy⟩ := rchk_val h2.ok j2.ok e2
    unfold fr
    rw [val_limbs, val_limbs, val_limbs, val_limbs, frac_self, frac_self]
    exact rAdd_x x y A1 B1 A2 B2 c1 k1 c2 k2 w hx hy h1 j1 h2 j2
  · have := rAdd_e s1 s2 A1 B1 A2 B2 c1 k1 c2 k2 l1 m1 l2 m2 w h1 j1 h2 j2 h
    rw [out2_err _ _ _ h]
    exact this
set_option maxRecDepth 20000 in
theorem rSub_e (s1 s2 : Bool) (A1 B1 A2 B2 : Option Addr) (c1 k1 c2 k2 : Nat) (l1 m1 l2 m2 : List Nat) (w : World) (h1 : SlW w A1 c1 l1) (j1 : SlW w B1 k1 m1) (h2 : SlW w A2 c2 l2) (j2 : SlW w B2 k2 m2) (h : (if rchk s1 l1 m1 ≠ 0 then rchk s1 l1 m1 else rchk s2 l2 m2) ≠ 0) :
    Calls Tryz.prog 15 #[.agg #[.bool s1, .slice A1 l1.length c1, .slice B1 m1.length k1], .agg #[.bool s2, .slice A2 l2.length c2, .slice B2 m2.length k2]] w (RPE (false, 0, 0, (if rchk s1 l1 m1 ≠ 0 then rchk s1 l1 m1 else rchk s2 l2 m2)) w) := by
  refine calls_b fun g => ?_
  have CK := Lib.hid (fun w a b d e => both04 s1 s2 A1 B1 A2 B2 c1 k1 c2 k2 l1 m1 l2 m2 w a b d e)
  have hp := err_two (rchk_err s1 l1 m1) (rchk_err s2 l2 m2)
  generalize (if rchk s1 l1 m1 ≠ 0 then rchk s1 l1 m1 else rchk s2 l2 m2) = x at *
  generalize l1.length = n1 at *
  generalize m1.length = n2 at *
  generalize l2.length = n3 at *
  generalize m2.length = n4 at *
  rcases hp with hp | hp | hp | hp
  · exact absurd hp h
  all_goals
    subst hp
    clear h
    go_enter Tryz.func15, Tryz.ntmps15
    go_wp2_with (with_reducible refine G.any_mark _ ?_; (try generalize Array.size (World.heap (G.w _)) = bk); (try dsimp only [List.set_cons_zero, List.set_cons_succ]); (try clear g); intro g)
    refine (CK.out _ (G.sl g (by simp) h1) (G.sl g (by simp) j1) (G.sl g (by simp) h2) (G.sl g (by simp) j2)).mono ?_
    rintro e w1 ⟨rfl, hb⟩
    obtain ⟨g1, rfl⟩ := G.call_ex _ hb
    clear hb
    (try clear g)
    revert g1
    intro g
    go_wp2_with (with_reducible refine G.any_mark _ ?_; (try generalize Array.size (World.heap (G.w _)) = bk); (try dsimp only [List.set_cons_zero, List.set_cons_succ]); (try clear g); intro g)
    refine bodyPost_ret (v := .tuple #[.agg #[.bool false, .slice none 0 0, .slice none 0 0], _]) (by simp [results, Tryz.results15, go_sem]; rfl) rfl ?_
    exact rpe_err _ _
theorem rSub4_any (s1 s2 : Bool) (A1 B1 A2 B2 : Option Addr) (c1 k1 c2 k2 : Nat) (l1 m1 l2 m2 : List Nat) (w : World) (h1 : SlW w A1 c1 l1) (j1 : SlW w B1 k1 m1) (h2 : SlW w A2 c2 l2) (j2 : SlW w B2 k2 m2) :
    Calls Tryz.prog 15 #[.agg #[.bool s1, .slice A1 l1.length c1, .slice B1 m1.length k1], .agg #[.bool s2, .slice A2 l2.length c2, .slice B2 m2.length k2]] w (RPE (out2 (rchk s1 l1 m1) (rchk s2 l2 m2) (outX (fr s1 l1 m1 - fr s2 l2 m2))) w) := by
  by_cases h : (if rchk s1 l1 m1 ≠ 0 then rchk s1 l1 m1 else rchk s2 l2 m2) = 0
  · have e1 : rchk s1 l1 m1 = 0 := by
      by_cases h1 : rchk s1 l1 m1 = 0
      · exact h1
      · rw [if_pos h1] at h; exact h
    have e2 : rchk s2 l2 m2 = 0 := by rwa [if_neg (by simpa using e1)] at h
    unfold out2
    rw [if_neg (by simpa using e1), if_neg (by simpa using e2)]
    obtain ⟨x, rfl, rfl, rfl, hx⟩ := rchk_val h1.ok j1.ok e1
    obtain ⟨y, rfl, rfl, rfl, hy⟩ := rchk_val h2.ok j2.ok e2
    unfold fr
    rw [val_limbs, val_limbs, val_limbs, val_limbs, frac_self, frac_self]
    exact rSub_x x y A1 B1 A2 B2 c1 k1 c2 k2 w hx hy h1 j1 h2 j2
  · have := rSub_e s1 s2 A1 B1 A2 B2 c1 k1 c2 k2 l1 m1 l2 m2 w h1 j1 h2 j2 h
    rw [out2_err _ _ _ h]
    exact this
set_option maxRecDepth 20000 in
theorem rMul_e (s1 s2 : Bool) (A1 B1 A2 B2 : Option Addr) (c1 k1 c2 k2 : Nat) (l1 m1 l2 m2 : List Nat) (w : World) (h1 : SlW w A1 c1 l1) (j1 : SlW w B1 k1 m1) (h2 : SlW w A2 c2 l2) (j2 : SlW w B2 k2 m2) (h : (if rchk s1 l1 m1 ≠ 0 then rchk s1 l1 m1 else rchk s2 l2 m2) ≠ 0) :
    Calls Tryz.prog 17 #[.agg #[.bool s1, .slice A1 l1.length c1, .slice B1 m1.length k1], .agg #[.bool s2, .slice A2 l2.length c2, .slice B2 m2.length k2]] w (RPE (false, 0, 0, (if rchk s1 l1 m1 ≠ 0 then rchk s1 l1 m1 else rchk s2 l2 m2)) w) := by
  refine calls_b fun g => ?_
  have CK := Lib.hid (fun w a b d e => both04 s1 s2 A1 B1 A2 B2 c1 k1 c2 k2 l1 m1 l2 m2 w a b d e)
  have hp := err_two (rchk_err s1 l1 m1) (rchk_err s2 l2 m2)
  generalize (if rchk s1 l1 m1 ≠ 0 then rchk s1 l1 m1 else rchk s2 l2 m2) = x at *
  generalize l1.length = n1 at *
  generalize m1.length = n2 at *
  generalize l2.length = n3 at *
  generalize m2.length = n4 at *
  rcases hp with hp | hp | hp | hp
  · exact absurd hp h
  all_goals
    subst hp
    clear h
    go_enter Tryz.func17, Tryz.ntmps17
    go_wp2_with (with_reducible refine G.any_mark _ ?_; (try generalize Array.size (World.heap (G.w _)) = bk); (try dsimp only [List.set_cons_zero, List.set_cons_succ]); (try clear g); intro g)
    refine (CK.out _ (G.sl g (by simp) h1) (G.sl g (by simp) j1) (G.sl g (by simp) h2) (G.sl g (by simp) j2)).mono ?_
    rintro e w1 ⟨rfl, hb⟩
    obtain ⟨g1, rfl⟩ := G.call_ex _ hb
    clear hb
    (try clear g)
    revert g1
    intro g
    go_wp2_with (with_reducible refine G.any_mark _ ?_; (try generalize Array.size (World.heap (G.w _)) = bk); (try dsimp only [List.set_cons_zero, List.set_cons_succ]); (try clear g); intro g)
    refine bodyPost_ret (v := .tuple #[.agg #[.bool false, .slice none 0 0, .slice none 0 0], _]) (by simp [results, Tryz.results17, go_sem]; rfl) rfl ?_
    exact rpe_err _ _
theorem rMul4_any (s1 s2 : Bool) (A1 B1 A2 B2 : Option Addr) (c1 k1 c2 k2 : Nat) (l1 m1 l2 m2 : List Nat) (w : World) (h1 : SlW w A1 c1 l1) (j1 : SlW w B1 k1 m1) (h2 : SlW w A2 c2 l2) (j2 : SlW w B2 k2 m2) :
    Calls Tryz.prog 17 #[.agg #[.bool s1, .slice A1 l1.length c1, .slice B1 m1.length k1], .agg #[.bool s2, .slice A2 l2.length c2, .slice B2 m2.length k2]] w (RPE (out2 (rchk s1 l1 m1) (rchk s2 l2 m2) (outX (fr s1 l1 m1 * fr s2 l2 m2))) w) := by
  by_cases h : (if rchk s1 l1 m1 ≠ 0 then rchk s1 l1 m1 else rchk s2 l2 m2) = 0
  · have e1 : rchk s1 l1 m1 = 0 := by
      by_cases h1 : rchk s1 l1 m1 = 0
      · exact h1
      · rw [if_pos h1] at h; exact h
    have e2 : rchk s2 l2 m2 = 0 := by rwa [if_neg (by simpa using e1)] at h
    unfold out2
    rw [if_neg (by simpa using e1), if_neg (by simpa using e2)]
    obtain ⟨x, rfl, rfl, rfl, hx⟩ := rchk_val h1.ok j1.ok e1
    obtain ⟨y, rfl, rfl, rfl, hy⟩ := rchk_val h2.ok j2.ok e2
    unfold fr
    rw [val_limbs, val_limbs, val_limbs, val_limbs, frac_self, frac_self]
    exact rMul_x x y A1 B1 A2 B2 c1 k1 c2 k2 w hx hy h1 j1 h2 j2
  · have := rMul_e s1 s2 A1 B1 A2 B2 c1 k1 c2 k2 l1 m1 l2 m2 w h1 j1 h2 j2 h
    rw [out2_err _ _ _ h]
    exact this
set_option maxRecDepth 20000 in
theorem rDiv_e (s1 s2 : Bool) (A1 B1 A2 B2 : Option Addr) (c1 k1 c2 k2 : Nat) (l1 m1 l2 m2 : List Nat) (w : World) (h1 : SlW w A1 c1 l1) (j1 : SlW w B1 k1 m1) (h2 : SlW w A2 c2 l2) (j2 : SlW w B2 k2 m2) (h : (if rchk s1 l1 m1 ≠ 0 then rchk s1 l1 m1 else rchk s2 l2 m2) ≠ 0) :
    Calls Tryz.prog 19 #[.agg #[.bool s1, .slice A1 l1.length c1, .slice B1 m1.length k1], .agg #[.bool s2, .slice A2 l2.length c2, .slice B2 m2.length k2]] w (RPE (false, 0, 0, (if rchk s1 l1 m1 ≠ 0 then rchk s1 l1 m1 else rchk s2 l2 m2)) w) := by
  refine calls_b fun g => ?_
  have CK := Lib.hid (fun w a b d e => both04 s1 s2 A1 B1 A2 B2 c1 k1 c2 k2 l1 m1 l2 m2 w a b d e)
  have hp := err_two (rchk_err s1 l1 m1) (rchk_err s2 l2 m2)
  generalize (if rchk s1 l1 m1 ≠ 0 then rchk s1 l1 m1 else rchk s2 l2 m2) = x at *
  generalize l1.length = n1 at *
  generalize m1.length = n2 at *
  generalize l2.length = n3 at *
  generalize m2.length = n4 at *
  rcases hp with hp | hp | hp | hp
  · exact absurd hp h
  all_goals
    subst hp
    clear h
    go_enter Tryz.func19, Tryz.ntmps19
    go_wp2_with (with_reducible refine G.any_mark _ ?_; (try generalize Array.size (World.heap (G.w _)) = bk); (try dsimp only [List.set_cons_zero, List.set_cons_succ]); (try clear g); intro g)
    refine (CK.out _ (G.sl g (by simp) h1) (G.sl g (by simp) j1) (G.sl g (by simp) h2) (G.sl g (by simp) j2)).mono ?_
    rintro e w1 ⟨rfl, hb⟩
    obtain ⟨g1, rfl⟩ := G.call_ex _ hb
    clear hb
    (try clear g)
    revert g1
    intro g
    go_wp2_with (with_reducible refine G.any_mark _ ?_; (try generalize Array.size (World.heap (G.w _)) = bk); (try dsimp only [List.set_cons_zero, List.set_cons_succ]); (try clear g); intro g)
    refine bodyPost_ret (v := .tuple #[.agg #[.bool false, .slice none 0 0, .slice none 0 0], _]) (by simp [results, Tryz.results19, go_sem]; rfl) rfl ?_
    exact rpe_err _ _
theorem rDiv4_any (s1 s2 : Bool) (A1 B1 A2 B2 : Option Addr) (c1 k1 c2 k2 : Nat) (l1 m1 l2 m2 : List Nat) (w : World) (h1 : SlW w A1 c1 l1) (j1 : SlW w B1 k1 m1) (h2 : SlW w A2 c2 l2) (j2 : SlW w B2 k2 m2) :
    Calls Tryz.prog 19 #[.agg #[.bool s1, .slice A1 l1.length c1, .slice B1 m1.length k1], .agg #[.bool s2, .slice A2 l2.length c2, .slice B2 m2.length k2]] w (RPE (out2 (rchk s1 l1 m1) (rchk s2 l2 m2) (divX (fr s1 l1 m1) (fr s2 l2 m2) (val l2))) w) := by
  by_cases h : (if rchk s1 l1 m1 ≠ 0 then rchk s1 l1 m1 else rchk s2 l2 m2) = 0
  · have e1 : rchk s1 l1 m1 = 0 := by
      by_cases h1 : rchk s1 l1 m1 = 0
      · exact h1
      · rw [if_pos h1] at h; exact h
    have e2 : rchk s2 l2 m2 = 0 := by rwa [if_neg (by simpa using e1)] at h
    unfold out2
    rw [if_neg (by simpa using e1), if_neg (by simpa using e2)]
    obtain ⟨x, rfl, rfl, rfl, hx⟩ := rchk_val h1.ok j1.ok e1
    obtain ⟨y, rfl, rfl, rfl, hy⟩ := rchk_val h2.ok j2.ok e2
    unfold fr
    rw [val_limbs, val_limbs, val_limbs, val_limbs, frac_self, frac_self]
    unfold divX
    by_cases h0 : rn y = 0
    · rw [if_pos h0]
      exact rDiv_z x y A1 B1 A2 B2 c1 k1 c2 k2 w hx hy h1 j1 h2 j2 h0
    · rw [if_neg h0]
      exact rDiv_x x y A1 B1 A2 B2 c1 k1 c2 k2 w hx hy h1 j1 h2 j2 h0
  · have := rDiv_e s1 s2 A1 B1 A2 B2 c1 k1 c2 k2 l1 m1 l2 m2 w h1 j1 h2 j2 h
    rw [out2_err _ _ _ h]
    exact this
set_option maxRecDepth 20000 in
theorem rNeg_e (s : Bool) (A B : Option Addr) (c k : Nat) (l m : List Nat) (w : World) (h : rchk s l m ≠ 0) (h1 : SlW w A c l) (j1 : SlW w B k m) :
    Calls Tryz.prog 11 #[.agg #[.bool s, .slice A l.length c, .slice B m.length k]] w (RPE (false, 0, 0, rchk s l m) w) := by
  refine calls_b fun g => ?_
  have CK := Lib.hid (fun w a b => rrcheck s A B c k l m w a b)
  have hp := rchk_err s l m
  generalize rchk s l m = x at *
  generalize l.length = ln at *
  generalize m.length = ld at *
  rcases hp with hp | hp | hp | hp
  · exact absurd hp h
  all_goals
    subst hp
    clear h
    go_enter Tryz.func11, Tryz.ntmps11
    go_wp2_with (with_reducible refine G.any_mark _ ?_; (try generalize Array.size (World.heap (G.w _)) = bk); (try dsimp only [List.set_cons_zero, List.set_cons_succ]); (try clear g); intro g)
    refine (CK.out _ (G.sl g (by simp) h1) (G.sl g (by simp) j1)).mono ?_
    rintro e w1 ⟨rfl, hb⟩
    obtain ⟨g1, rfl⟩ := G.call_ex _ hb
    clear hb
    (try clear g)
    revert g1
    intro g
    go_wp2_with (with_reducible refine G.any_mark _ ?_; (try generalize Array.size (World.heap (G.w _)) = bk); (try dsimp only [List.set_cons_zero, List.set_cons_succ]); (try clear g); intro g)
    refine bodyPost_ret (v := .tuple #[.agg #[.bool false, .slice none 0 0, .slice none 0 0], _]) (by simp [results, Tryz.results11, go_sem]; rfl) rfl ?_
    exact rpe_err _ _
theorem rNeg4_any (s1 : Bool) (A1 B1 : Option Addr) (c1 k1 : Nat) (l1 m1 : List Nat) (w : World) (h1 : SlW w A1 c1 l1) (j1 : SlW w B1 k1 m1) :
    Calls Tryz.prog 11 #[.agg #[.bool s1, .slice A1 l1.length c1, .slice B1 m1.length k1]] w (RPE (out1 (rchk s1 l1 m1) (outP (!s1 && decide (0 < l1.length)) (val l1) (val m1))) w) := by
  unfold out1
  by_cases h : rchk s1 l1 m1 = 0
  · rw [if_neg (by simpa using h)]
    obtain ⟨x, rfl, rfl, rfl, hx⟩ := rchk_val h1.ok j1.ok h
    have := rNeg_x x A1 B1 c1 k1 w hx h1 j1
    unfold outX at this
    rw [rneg_neg, rn_neg, Rat.neg_den] at this
    have hl : decide (0 < (limbs (rn x)).length) = decide (rn x ≠ 0) := by
      by_cases h : rn x = 0
      · rw [h, limbs_len0]; rfl
      · rw [decide_eq_true h, decide_eq_true (limbs_ne h).2]
    rw [val_limbs, val_limbs, hl]
    exact this
  · rw [if_pos h]
    exact rNeg_e s1 A1 B1 c1 k1 l1 m1 w h h1 j1
set_option maxRecDepth 20000 in
theorem rCmp4_any (s1 s2 : Bool) (A1 B1 A2 B2 : Option Addr) (c1 k1 c2 k2 : Nat) (l1 m1 l2 m2 : List Nat) (w : World) (h1 : SlW w A1 c1 l1) (j1 : SlW w B1 k1 m1) (h2 : SlW w A2 c2 l2) (j2 : SlW w B2 k2 m2) :
    Calls Tryz.prog 21 #[.agg #[.bool s1, .slice A1 l1.length c1, .slice B1 m1.length k1], .agg #[.bool s2, .slice A2 l2.length c2, .slice B2 m2.length k2]] w fun e w' => e = .returned (.tuple #[.int .i64 (cmpR (rchk s1 l1 m1) (rchk s2 l2 m2) (sgn (fr s1 l1 m1 - fr s2 l2 m2))).1, .int .i64 (cmpR (rchk s1 l1 m1) (rchk s2 l2 m2) (sgn (fr s1 l1 m1 - fr s2 l2 m2))).2]) ∧ Below w.heap.size w w' := by
  refine calls_b fun g => ?_
  have CK := Lib.hid (fun w a b d e => both04 s1 s2 A1 B1 A2 B2 c1 k1 c2 k2 l1 m1 l2 m2 w a b d e)
  by_cases h : (if rchk s1 l1 m1 ≠ 0 then rchk s1 l1 m1 else rchk s2 l2 m2) = 0
  · have e1 : rchk s1 l1 m1 = 0 := by
      by_cases h1 : rchk s1 l1 m1 = 0
      · exact h1
      · rw [if_pos h1] at h; exact h
    have e2 : rchk s2 l2 m2 = 0 := by rwa [if_neg (by simpa using e1)] at h
    rw [h] at CK
    unfold cmpR
    rw [if_neg (by simpa using e1), if_neg (by simpa using e2)]
    obtain ⟨x, rfl, rfl, rfl, hx⟩ := rchk_val h1.ok j1.ok e1
    obtain ⟨y, rfl, rfl, rfl, hy⟩ := rchk_val h2.ok j2.ok e2
    unfold fr
    rw [val_limbs, val_limbs, val_limbs, val_limbs, frac_self, frac_self]
    have CO := Lib.hid (fun w a b d e => rOrder4_x x y A1 B1 A2 B2 c1 k1 c2 k2 w hx hy a b d e)
    generalize sgn (x - y) = q at *
    clear e1 e2 h hx hy
    generalize (limbs (rn x)).length = lx at *
    generalize (limbs x.den).length = mx at *
    generalize rneg x = sx at *
    generalize (limbs (rn y)).length = ly at *
    generalize (limbs y.den).length = my at *
    generalize rneg y = sy at *
    go_enter Tryz.func21, Tryz.ntmps21
    go_wp2_with (with_reducible refine G.any_mark _ ?_; (try generalize Array.size (World.heap (G.w _)) = bk); (try dsimp only [List.set_cons_zero, List.set_cons_succ]); (try clear g); intro g)
    refine (CK.out _ (G.sl g (by simp) h1) (G.sl g (by simp) j1) (G.sl g (by simp) h2) (G.sl g (by simp) j2)).mono ?_
    rintro e w1 ⟨rfl, hb⟩
    obtain ⟨g1, rfl⟩ := G.call_ex _ hb
    clear hb
    (try clear g)
    revert g1
    intro g
    go_wp2_with (with_reducible refine G.any_mark _ ?_; (try generalize Array.size (World.heap (G.w _)) = bk); (try dsimp only [List.set_cons_zero, List.set_cons_succ]); (try clear g); intro g)
    refine (CO.out _ (G.sl g (by simp) h1) (G.sl g (by simp) j1) (G.sl g (by simp) h2) (G.sl g (by simp) j2)).mono ?_
    rintro e w1 ⟨rfl, hb⟩
    obtain ⟨g1, rfl⟩ := G.call_ex _ hb
    clear hb
    (try clear g)
    revert g1
    intro g
    go_wp2_with (with_reducible refine G.any_mark _ ?_; (try generalize Array.size (World.heap (G.w _)) = bk); (try dsimp only [List.set_cons_zero, List.set_cons_succ]); (try clear g); intro g)
    go_ret2
    exact ⟨rfl, G.below _⟩
  · have hr : cmpR (rchk s1 l1 m1) (rchk s2 l2 m2) (sgn (fr s1 l1 m1 - fr s2 l2 m2)) = (0, (if rchk s1 l1 m1 ≠ 0 then rchk s1 l1 m1 else rchk s2 l2 m2)) := by
      unfold cmpR
      by_cases ha : rchk s1 l1 m1 ≠ 0
      · rw [if_pos ha, if_pos ha]
      · rw [if_neg ha] at h ⊢
        rw [if_pos h, if_neg ha]
    rw [hr]
    have hp := err_two (rchk_err s1 l1 m1) (rchk_err s2 l2 m2)
    clear hr
    generalize (if rchk s1 l1 m1 ≠ 0 then rchk s1 l1 m1 else rchk s2 l2 m2) = x at *
    generalize l1.length = n1 at *
    generalize m1.length = n2 at *
    generalize l2.length = n3 at *
    generalize m2.length = n4 at *
    rcases hp with hp | hp | hp | hp
    · exact absurd hp h
    all_goals
      subst hp
      clear h
      go_enter Tryz.func21, Tryz.ntmps21
      go_wp2_with (with_reducible refine G.any_mark _ ?_; (try generalize Array.size (World.heap (G.w _)) = bk); (try dsimp only [List.set_cons_zero, List.set_cons_succ]); (try clear g); intro g)
      refine (CK.out _ (G.sl g (by simp) h1) (G.sl g (by simp) j1) (G.sl g (by simp) h2) (G.sl g (by simp) j2)).mono ?_
      rintro e w1 ⟨rfl, hb⟩
      obtain ⟨g1, rfl⟩ := G.call_ex _ hb
      clear hb
      (try clear g)
      revert g1
      intro g
      go_wp2_with (with_reducible refine G.any_mark _ ?_; (try generalize Array.size (World.heap (G.w _)) = bk); (try dsimp only [List.set_cons_zero, List.set_cons_succ]); (try clear g); intro g)
      go_ret2
      exact ⟨rfl, G.below _⟩
end Go.Proofs.YtjdnpkicdmapnaaGreatDoor
namespace Go.Proofs.YtjdnpkicdmapnaaGreatDoor
open Go.RowKit GW NL
theorem two_limbs64 (n : Nat) (h : n < 18446744073709551616) : val [n % 4294967296, n / 4294967296] = n ∧ Ok [n % 4294967296, n / 4294967296] := by
  refine ⟨by simp [val]; omega, ?_⟩
  intro x hx
  simp at hx
  omega
theorem size_pos (n : Nat) (h1 : n < 9223372036854775808) (w : World) : Calls Tryz.prog 76 #[.int .i64 n] w (RNat n w) := by
  refine calls_b fun g => ?_
  obtain ⟨hv, hk⟩ := two_limbs64 n (by omega)
  have HV := Lib.hid hv
  have e1 : (((n % 4294967296 : Nat)) : Int) = (n : Int) % 4294967296 := by omega
  have e2 : (((n / 4294967296 : Nat)) : Int) = (n : Int) / 4294967296 := by omega
  have E1 := Lib.hid e1
  have E2 := Lib.hid e2
  clear hv e1 e2
  go_enter Tryz.func76, Tryz.ntmps76
  go_wp2_with (with_reducible refine G.any_mark _ ?_; (try generalize Array.size (World.heap (G.w _)) = bk); (try dsimp only [List.set_cons_zero, List.set_cons_succ]); (try clear g); intro g)
  obtain ⟨g2, hg2⟩ := g.as (M' := [(bk, 29, u32s [n % 4294967296, n / 4294967296])]) (by simp only [u32s, List.map_cons, List.map_nil, E1.out, E2.out])
  rw [hg2]
  clear hg2 g
  revert g2
  intro g
  have hsl : SlW g.w (some ⟨bk, 0, none⟩) 2 [n % 4294967296, n / 4294967296] := (sl_blk (by simp) (by decide) hk).at (blkF_sub g.blk0)
  refine (ltrim_any _ _ [n % 4294967296, n / 4294967296] _ hsl).mono ?_
  rintro e w1 ⟨rfl, hb⟩
  obtain ⟨g1, rfl⟩ := G.call_ex _ hb
  clear hb hsl g
  revert g1
  intro g
  rw [HV.out]
  have hfin : (blkF bk (.cells (u32s [n % 4294967296, n / 4294967296]).toArray 29 (0, 0))).Sl (some ⟨bk, 0, none⟩) 2 (limbs n) := by
    have := sl_trim (sl_blk (b := bk) (T := 29) (fr := (0, 0)) (c := 2) (by simp) (by decide) hk)
    rwa [HV.out] at this
  go_wp2_with (with_reducible refine G.any_mark _ ?_; (try generalize Array.size (World.heap (G.w _)) = bk); (try dsimp only [List.set_cons_zero, List.set_cons_succ]); (try clear g); intro g)
  go_ret
  exact ⟨_, 2, _, rfl, hfin, g.give (List.mem_cons_self ..)⟩
theorem size_neg (n : Nat) (h0 : 0 < n) (h1 : n ≤ 9223372036854775808) (w : World) : Calls Tryz.prog 76 #[.int .i64 (-(n : Int))] w (RNat n w) := by
  refine calls_b fun g => ?_
  obtain ⟨a, ha⟩ : ∃ a : Int, -(n : Int) = a := ⟨_, rfl⟩
  rw [ha]
  have hneg : a < 0 := by omega
  obtain ⟨b, hb⟩ : ∃ b : Int, 18446744073709551616 - (n : Int) = b := ⟨_, rfl⟩
  have w1 : IntKind.u64.wrap a = b := by show a % 18446744073709551616 = b; omega
  have w2 : IntKind.u64.wrap (-b) = (n : Int) := by show (-b) % 18446744073709551616 = (n : Int); omega
  obtain ⟨hv, hk⟩ := two_limbs64 n (by omega)
  have HV := Lib.hid hv
  have e1 : (((n % 4294967296 : Nat)) : Int) = (n : Int) % 4294967296 := by omega
  have e2 : (((n / 4294967296 : Nat)) : Int) = (n : Int) / 4294967296 := by omega
  have E1 := Lib.hid e1
  have E2 := Lib.hid e2
  have hn64 : (n : Int) / 4294967296 < 4294967296 := by omega
  clear hv e1 e2 hb
  have h63 : -9223372036854775808 ≤ a := by omega
  go_enter Tryz.func76, Tryz.ntmps76
  go_wp2_with (with_reducible refine G.any_mark _ ?_; (try generalize Array.size (World.heap (G.w _)) = bk); (try dsimp only [List.set_cons_zero, List.set_cons_succ]); (try clear g); intro g)
  obtain ⟨g2, hg2⟩ := g.as (M' := [(bk, 29, u32s [n % 4294967296, n / 4294967296])]) (by simp only [u32s, List.map_cons, List.map_nil, E1.out, E2.out])
  rw [hg2]
  clear hg2 g
  revert g2
  intro g
  have hsl : SlW g.w (some ⟨bk, 0, none⟩) 2 [n % 4294967296, n / 4294967296] := (sl_blk (by simp) (by decide) hk).at (blkF_sub g.blk0)
  refine (ltrim_any _ _ [n % 4294967296, n / 4294967296] _ hsl).mono ?_
  rintro e w1 ⟨rfl, hb⟩
  obtain ⟨g1, rfl⟩ := G.call_ex _ hb
  clear hb hsl g
  revert g1
  intro g
  rw [HV.out]
  have hfin : (blkF bk (.cells (u32s [n % 4294967296, n / 4294967296]).toArray 29 (0, 0))).Sl (some ⟨bk, 0, none⟩) 2 (limbs n) := by
    have := sl_trim (sl_blk (b := bk) (T := 29) (fr := (0, 0)) (c := 2) (by simp) (by decide) hk)
    rwa [HV.out] at this
  go_wp2_with (with_reducible refine G.any_mark _ ?_; (try generalize Array.size (World.heap (G.w _)) = bk); (try dsimp only [List.set_cons_zero, List.set_cons_succ]); (try clear g); intro g)
  go_ret
  exact ⟨_, 2, _, rfl, hfin, g.give (List.mem_cons_self ..)⟩
theorem size_any (a : Int) (h1 : -9223372036854775808 ≤ a) (h2 : a < 9223372036854775808) (w : World) : Calls Tryz.prog 76 #[.int .i64 a] w (RNat a.natAbs w) := by
  by_cases h : a < 0
  · have := size_neg a.natAbs (by omega) (by omega) w
    rwa [show -((a.natAbs : Nat) : Int) = a by omega] at this
  · have := size_pos a.natAbs (by omega) w
    rwa [show ((a.natAbs : Nat) : Int) = a by omega] at this
/-- what Of answers -/
def ofX (a b : Int) : Bool × Nat × Nat × Int := if b = 0 then (false, 0, 0, 6) else outX (frac (decide (a < 0) != decide (b < 0)) a.natAbs b.natAbs)
set_option maxRecDepth 20000 in
set_option maxHeartbeats 4000000 in
theorem qOf_any (a b : Int) (h1 : -9223372036854775808 ≤ a) (h2 : a < 9223372036854775808) (h3 : -9223372036854775808 ≤ b) (h4 : b < 9223372036854775808) (w : World) (hT : Tab w) :
    Calls Tryz.prog 32 #[.int .i64 a, .int .i64 b] w (RPE (ofX a b) w) := by
  by_cases hb0 : b = 0
  · subst hb0
    refine calls_b fun g => ?_
    go_enter Tryz.func32, Tryz.ntmps32
    go_wp2_with (with_reducible refine G.any_mark _ ?_; (try generalize Array.size (World.heap (G.w _)) = bk); (try dsimp only [List.set_cons_zero, List.set_cons_succ]); (try clear g); intro g)
    refine bodyPost_ret (v := .tuple #[.agg #[.bool false, .slice none 0 0, .slice none 0 0], .int .i64 6]) (by simp [results, Tryz.results32, go_sem]) rfl ?_
    exact rpe_err _ _
  · have hd0 : b.natAbs ≠ 0 := by omega
    have hla : (limbs a.natAbs).length ≤ 2 := (limbs_len _ 2).2 (by rw [pow32]; omega)
    have hlb : (limbs b.natAbs).length ≤ 2 := (limbs_len _ 2).2 (by rw [pow32]; omega)
    unfold ofX
    rw [if_neg hb0]
    refine calls_n fun g => ?_
    have CSA := Lib.hid (fun w => size_any a h1 h2 w)
    have CSB := Lib.hid (fun w => size_any b h3 h4 w)
    have hbz : (b == 0) = false := by rw [beq_eq_false_iff_ne]; exact hb0
    have HT := Lib.hid hT
    generalize a.natAbs = na at *
    generalize b.natAbs = nb at *
    obtain ⟨sg, hsg⟩ : ∃ sg, (decide (a < 0) != decide (b < 0)) = sg := ⟨_, rfl⟩
    rw [hsg]
    have hsg2 : (!(decide (a < 0) == decide (b < 0))) = sg := hsg
    clear hsg
    have CL := Lib.hid (fun F A c B k w hF h1 h2 hT => low_rat F sg A B c k na nb w hF h1 h2 hT (by omega) (by omega) hd0)
    generalize frac sg na nb = x at *
    have CR := Lib.hid (fun A B c k w h1 h2 => result_any (rneg x) A B c k (rn x) x.den w h1 h2)
    unfold outX
    generalize outP (rneg x) (rn x) x.den = RR at *
    clear h1 h2 h3 h4 hla hlb hd0 hb0 hT
    go_enter Tryz.func32, Tryz.ntmps32
    go_wp2_with (with_reducible refine G.any_mark _ ?_; (try generalize Array.size (World.heap (G.w _)) = bk); (try dsimp only [List.set_cons_zero, List.set_cons_succ]); (try clear g); intro g)
    refine (CSA.out _).mono ?_
    rintro e w1 ⟨X1, x1, P1, rfl, hx1, hn1⟩
    have ho1 := New.over hn1 nilF (G.chg _).size
    obtain ⟨g1, rfl⟩ := G.new_ex _ hn1
    clear hn1
    (try clear g)
    revert g1
    intro g
    go_wp2_with (with_reducible refine G.any_mark _ ?_; (try generalize Array.size (World.heap (G.w _)) = bk); (try dsimp only [List.set_cons_zero, List.set_cons_succ]); (try clear g); intro g)
    refine (CSB.out _).mono ?_
    rintro e w1 ⟨X2, x2, P2, rfl, hx2, hn2⟩
    have ho2 := New.over hn2 nilF (G.chg _).size
    obtain ⟨g1, rfl⟩ := G.new_ex _ hn2
    clear hn2
    (try clear g)
    revert g1
    intro g
    go_wp2_with (with_reducible refine G.any_mark _ ?_; (try generalize Array.size (World.heap (G.w _)) = bk); (try dsimp only [List.set_cons_zero, List.set_cons_succ]); (try clear g); intro g)
    refine (CL.out (g.fr nilF) X1 x1 X2 x2 _ (g.fr_sub (by simp)) (g.fr_sl (by simp) ho1 hx1) (g.fr_sl (by simp) ho2 hx2) (G.tab g HT.out)).mono ?_
    rintro e w1 ⟨Y1, y1, Q1, Y2, y2, Q2, rfl, hy1, hy2, hn1, hn2⟩
    obtain ⟨g1, rfl, hov1, hov2⟩ := G.new3_ex g hn1 hn2
    clear hn1 hn2
    (try clear g)
    revert g1
    intro g
    go_wp2_with (with_reducible refine G.any_mark _ ?_; (try generalize Array.size (World.heap (G.w _)) = bk); (try dsimp only [List.set_cons_zero, List.set_cons_succ]); (try clear g); intro g)
    refine (CR.out _ _ _ _ _ (G.sl g (by simp) hy1) (G.sl g (by simp) hy2)).mono ?_
    rintro e w1 ⟨Z1, z1, R1, Z2, z2, R2, rfl, hz1, hz2, hn1, hn2⟩
    have ho1 := fun k o hk => Nat.le_trans (G.chg _).size (hn1.new k o hk)
    have ho2 := fun k o hk => Nat.le_trans (G.chg _).size (hn2.new k o hk)
    obtain ⟨g1, rfl⟩ := G.new2_ex _ hn1 hn2
    clear hn1 hn2
    (try clear g)
    revert g1
    intro g
    go_wp2_with (with_reducible refine G.any_mark _ ?_; (try generalize Array.size (World.heap (G.w _)) = bk); (try dsimp only [List.set_cons_zero, List.set_cons_succ]); (try clear g); intro g)
    refine bodyPost_ret (v := .tuple #[.agg #[.bool RR.1, .slice Z1 (limbs RR.2.1).length z1, .slice Z2 (limbs RR.2.2.1).length z2], .int .i64 RR.2.2.2]) (by simp [results, Tryz.results32, go_sem]) rfl ?_
    exact ⟨Z1, z1, R1, Z2, z2, R2, rfl, hz1, hz2, G.pass _ (by simp) ho1, G.pass _ (by simp) ho2⟩
end Go.Proofs.YtjdnpkicdmapnaaGreatDoor
namespace Go.Proofs.YtjdnpkicdmapnaaGreatDoor
open Go.RowKit GW NL
/-- a number without an error -/
def RX (x : Rat) (w : World) (e : Ending) (w' : World) : Prop := ∃ A c F B k H, e = .returned (.tuple #[.agg #[.bool (rneg x), .slice A (limbs (rn x)).length c, .slice B (limbs x.den).length k], .int .i64 0]) ∧ F.Sl A c (limbs (rn x)) ∧ H.Sl B k (limbs x.den) ∧ New w w' F ∧ New w w' H
theorem rchk_x {x : Rat} (h : Bd 8192 x) : rchk (rneg x) (limbs (rn x)) (limbs x.den) = 0 := by
  unfold rchk
  rw [chk_limbs h.1, chk_limbs h.2, val_limbs, val_limbs, if_neg (by decide), if_neg (by decide), if_neg x.den_nz, if_neg]
  rintro (⟨h1, h2⟩ | h1)
  · exact rneg_ne h1 h2
  · exact h1 (rgcd x)
theorem fr_x (x : Rat) : fr (rneg x) (limbs (rn x)) (limbs x.den) = x := by
  unfold fr; rw [val_limbs, val_limbs, frac_self]
theorem outX_x {x : Rat} (h : Bd 8192 x) : outX x = (rneg x, rn x, x.den, 0) := by
  unfold outX outP; exact if_pos h
theorem sgn_sgz (x : Rat) : sgn x = sgz x := rfl
theorem flq_eq (s : Bool) (n d : Nat) : flq s n d = flq' s n d := rfl
theorem rdq_eq (n d : Nat) : rdq n d = rdq' n d := rfl
section
variable (A1 B1 A2 B2 : Option Addr) (c1 k1 c2 k2 : Nat) (x y : Rat)
theorem qAdd_x (z : Rat) (hx : Bd 8192 x) (hy : Bd 8192 y) (hz : Bd 8192 z) (e : x + y = z) (w : World) (h1 : SlW w A1 c1 (limbs (rn x))) (j1 : SlW w B1 k1 (limbs x.den)) (h2 : SlW w A2 c2 (limbs (rn y))) (j2 : SlW w B2 k2 (limbs y.den)) (hT : Tab w) :
    Calls Tryz.prog 12 #[.agg #[.bool (rneg x), .slice A1 (limbs (rn x)).length c1, .slice B1 (limbs x.den).length k1], .agg #[.bool (rneg y), .slice A2 (limbs (rn y)).length c2, .slice B2 (limbs y.den).length k2]] w (RX z w) := by
  subst e
  have := qAdd_any (rneg x) (rneg y) A1 B1 A2 B2 c1 k1 c2 k2 _ _ _ _ w h1 j1 h2 j2 hT
  rw [rchk_x hx, rchk_x hy, fr_x, fr_x, outX_x hz] at this
  exact this
theorem qSub_x (z : Rat) (hx : Bd 8192 x) (hy : Bd 8192 y) (hz : Bd 8192 z) (e : x - y = z) (w : World) (h1 : SlW w A1 c1 (limbs (rn x))) (j1 : SlW w B1 k1 (limbs x.den)) (h2 : SlW w A2 c2 (limbs (rn y))) (j2 : SlW w B2 k2 (limbs y.den)) (hT : Tab w) :
    Calls Tryz.prog 14 #[.agg #[.bool (rneg x), .slice A1 (limbs (rn x)).length c1, .slice B1 (limbs x.den).length k1], .agg #[.bool (rneg y), .slice A2 (limbs (rn y)).length c2, .slice B2 (limbs y.den).length k2]] w (RX z w) := by
  subst e
  have := qSub_any (rneg x) (rneg y) A1 B1 A2 B2 c1 k1 c2 k2 _ _ _ _ w h1 j1 h2 j2 hT
  rw [rchk_x hx, rchk_x hy, fr_x, fr_x, outX_x hz] at this
  exact this
theorem qMul_x (z : Rat) (hx : Bd 8192 x) (hy : Bd 8192 y) (hz : Bd 8192 z) (e : x * y = z) (w : World) (h1 : SlW w A1 c1 (limbs (rn x))) (j1 : SlW w B1 k1 (limbs x.den)) (h2 : SlW w A2 c2 (limbs (rn y))) (j2 : SlW w B2 k2 (limbs y.den)) (hT : Tab w) :
    Calls Tryz.prog 16 #[.agg #[.bool (rneg x), .slice A1 (limbs (rn x)).length c1, .slice B1 (limbs x.den).length k1], .agg #[.bool (rneg y), .slice A2 (limbs (rn y)).length c2, .slice B2 (limbs y.den).length k2]] w (RX z w) := by
  subst e
  have := qMul_any (rneg x) (rneg y) A1 B1 A2 B2 c1 k1 c2 k2 _ _ _ _ w h1 j1 h2 j2 hT
  rw [rchk_x hx, rchk_x hy, fr_x, fr_x, outX_x hz] at this
  exact this
theorem qDiv_x (z : Rat) (hx : Bd 8192 x) (hy : Bd 8192 y) (hz : Bd 8192 z) (h0 : rn y ≠ 0) (e : x / y = z) (w : World) (h1 : SlW w A1 c1 (limbs (rn x))) (j1 : SlW w B1 k1 (limbs x.den)) (h2 : SlW w A2 c2 (limbs (rn y))) (j2 : SlW w B2 k2 (limbs y.den)) (hT : Tab w) :
    Calls Tryz.prog 18 #[.agg #[.bool (rneg x), .slice A1 (limbs (rn x)).length c1, .slice B1 (limbs x.den).length k1], .agg #[.bool (rneg y), .slice A2 (limbs (rn y)).length c2, .slice B2 (limbs y.den).length k2]] w (RX z w) := by
  subst e
  have := qDiv_any (rneg x) (rneg y) A1 B1 A2 B2 c1 k1 c2 k2 _ _ _ _ w h1 j1 h2 j2 hT
  rw [rchk_x hx, rchk_x hy, fr_x, fr_x] at this
  unfold divX at this
  rw [val_limbs, if_neg h0, outX_x hz] at this
  exact this
theorem qDiv_z (hx : Bd 8192 x) (hy : Bd 8192 y) (h0 : rn y = 0) (w : World) (h1 : SlW w A1 c1 (limbs (rn x))) (j1 : SlW w B1 k1 (limbs x.den)) (h2 : SlW w A2 c2 (limbs (rn y))) (j2 : SlW w B2 k2 (limbs y.den)) (hT : Tab w) :
    Calls Tryz.prog 18 #[.agg #[.bool (rneg x), .slice A1 (limbs (rn x)).length c1, .slice B1 (limbs x.den).length k1], .agg #[.bool (rneg y), .slice A2 (limbs (rn y)).length c2, .slice B2 (limbs y.den).length k2]] w (RPE (false, 0, 0, 6) w) := by
  have := qDiv_any (rneg x) (rneg y) A1 B1 A2 B2 c1 k1 c2 k2 _ _ _ _ w h1 j1 h2 j2 hT
  rw [rchk_x hx, rchk_x hy, fr_x, fr_x] at this
  unfold divX at this
  rw [val_limbs, if_pos h0] at this
  exact this
theorem qCmp_x (z : Int) (hx : Bd 8192 x) (hy : Bd 8192 y) (e : sgz (x - y) = z) (w : World) (h1 : SlW w A1 c1 (limbs (rn x))) (j1 : SlW w B1 k1 (limbs x.den)) (h2 : SlW w A2 c2 (limbs (rn y))) (j2 : SlW w B2 k2 (limbs y.den)) (hT : Tab w) :
    Calls Tryz.prog 20 #[.agg #[.bool (rneg x), .slice A1 (limbs (rn x)).length c1, .slice B1 (limbs x.den).length k1], .agg #[.bool (rneg y), .slice A2 (limbs (rn y)).length c2, .slice B2 (limbs y.den).length k2]] w fun e w' => e = .returned (.tuple #[.int .i64 z, .int .i64 0]) ∧ Below w.heap.size w w' := by
  subst e
  have := qCmp_any (rneg x) (rneg y) A1 B1 A2 B2 c1 k1 c2 k2 _ _ _ _ w h1 j1 h2 j2 hT
  rw [rchk_x hx, rchk_x hy, fr_x, fr_x] at this
  exact this
theorem qNeg_x (z : Rat) (hx : Bd 8192 x) (e : -x = z) (w : World) (h1 : SlW w A1 c1 (limbs (rn x))) (j1 : SlW w B1 k1 (limbs x.den)) (hT : Tab w) :
    Calls Tryz.prog 10 #[.agg #[.bool (rneg x), .slice A1 (limbs (rn x)).length c1, .slice B1 (limbs x.den).length k1]] w (RX z w) := by
  subst e
  have := qNeg_any (rneg x) A1 B1 c1 k1 _ _ w h1 j1 hT
  have hl : decide (0 < (limbs (rn x)).length) = decide (rn x ≠ 0) := by
    have h0 : (limbs (rn x)).length = 0 ↔ rn x = 0 := by rw [List.length_eq_zero_iff, limbs_nil]
    by_cases h : rn x = 0
    · rw [decide_eq_false (by omega), decide_eq_false (by omega)]
    · rw [decide_eq_true (by omega), decide_eq_true (by omega)]
  have hb := hx.neg
  have e : outP (!rneg x && decide (rn x ≠ 0)) (rn x) x.den = (rneg (-x), rn (-x), (-x).den, 0) := by
    rw [← rneg_neg, ← rn_neg x, ← Rat.neg_den x]
    unfold outP
    rw [rn_neg, Rat.neg_den] at *
    exact if_pos hx
  rw [rchk_x hx, hl, val_limbs, val_limbs, e] at this
  exact this
theorem qFloor_x (z : Rat) (hx : Bd 8191 x) (e : (x.floor : Rat) = z) (w : World) (h1 : SlW w A1 c1 (limbs (rn x))) (j1 : SlW w B1 k1 (limbs x.den)) (hT : Tab w) :
    Calls Tryz.prog 35 #[.agg #[.bool (rneg x), .slice A1 (limbs (rn x)).length c1, .slice B1 (limbs x.den).length k1]] w (RX z w) := by
  subst e
  have := qFloor_any (rneg x) A1 B1 c1 k1 _ _ w h1 j1 hT
  obtain ⟨a, b, c⟩ := floor_int x
  have hb : rn (x.floor : Rat) < 2 ^ 8192 ∧ (x.floor : Rat).den < 2 ^ 8192 := hx.floor
  rw [rchk_x (hx.mono (by decide)), flq_eq, val_limbs, val_limbs, ← a, ← b, ← c] at this
  unfold outP at this
  rw [if_pos hb] at this
  exact this
theorem qRound_x (z : Rat) (hx : Bd 8189 x) (e : ((rndz x : Int) : Rat) = z) (w : World) (h1 : SlW w A1 c1 (limbs (rn x))) (j1 : SlW w B1 k1 (limbs x.den)) (hT : Tab w) :
    Calls Tryz.prog 36 #[.agg #[.bool (rneg x), .slice A1 (limbs (rn x)).length c1, .slice B1 (limbs x.den).length k1]] w (RX z w) := by
  subst e
  have := qRound_any (rneg x) A1 B1 c1 k1 _ _ w h1 j1 hT
  obtain ⟨a, b, c⟩ := rnd_parts x
  have hb : rn ((rndz x : Int) : Rat) < 2 ^ 8192 ∧ ((rndz x : Int) : Rat).den < 2 ^ 8192 := hx.rnd
  rw [rchk_x (hx.mono (by decide)), rdq_eq, val_limbs, val_limbs, ← a, ← b, ← c] at this
  unfold outP at this
  rw [if_pos hb] at this
  exact this
end
theorem qOf_x (a b : Int) (z : Rat) (hb : b ≠ 0) (hz : Bd 8192 z) (e : frac (decide (a < 0) != decide (b < 0)) a.natAbs b.natAbs = z) (h1 : -9223372036854775808 ≤ a) (h2 : a < 9223372036854775808) (h3 : -9223372036854775808 ≤ b) (h4 : b < 9223372036854775808) (w : World) (hT : Tab w) :
    Calls Tryz.prog 32 #[.int .i64 a, .int .i64 b] w (RX z w) := by
  have := qOf_any a b h1 h2 h3 h4 w hT
  unfold ofX at this
  rw [if_neg hb, e, outX_x hz] at this
  exact this
end Go.Proofs.YtjdnpkicdmapnaaGreatDoor
namespace Go.Proofs.YtjdnpkicdmapnaaGreatDoor
open Go.RowKit GW NL
/-- a natural number and a sign -/
def RFrom (n : Nat) (b : Bool) (w : World) (e : Ending) (w' : World) : Prop := ∃ A c F, e = .returned (.tuple #[.slice A (limbs n).length c, .bool b]) ∧ F.Sl A c (limbs n) ∧ New w w' F
set_option maxRecDepth 20000 in
theorem from_pos (n : Nat) (h1 : n < 9223372036854775808) (w : World) : Calls Tryz.prog 114 #[.int .i64 n] w (RFrom n false w) := by
  refine calls_b fun g => ?_
  obtain ⟨hv, hk⟩ := two_limbs64 n (by omega)
  have HV := Lib.hid hv
  have e1 : (((n % 4294967296 : Nat)) : Int) = (n : Int) % 4294967296 := by omega
  have e2 : (((n / 4294967296 : Nat)) : Int) = (n : Int) / 4294967296 := by omega
  have E1 := Lib.hid e1
  have E2 := Lib.hid e2
  clear hv e1 e2
  go_enter Tryz.func114, Tryz.ntmps114
  go_wp2_with (with_reducible refine G.any_mark _ ?_; (try generalize Array.size (World.heap (G.w _)) = bk); (try dsimp only [List.set_cons_zero, List.set_cons_succ]); (try clear g); intro g)
  obtain ⟨L, hL⟩ : ∃ L, [n % 4294967296, n / 4294967296] = L := ⟨_, rfl⟩
  have hL2 : L.length = 2 := by rw [← hL]; rfl
  have HVL := HV.out
  obtain ⟨g2, hg2⟩ := g.as (M' := [(bk, 29, u32s L)]) (by rw [← hL]; simp only [u32s, List.map_cons, List.map_nil, E1.out, E2.out])
  rw [hg2]
  clear hg2 g
  revert g2
  intro g
  rw [hL] at hk HVL
  have HVV := Lib.hid HVL
  have HL2 := Lib.hid hL2
  clear HVL hL2 hL HV E1 E2
  obtain ⟨tb, rfl⟩ : ∃ tb, tb = bk := ⟨_, rfl⟩
  go_loopg [5] 2 (fun gk s5 wr => gk ≤ 2 ∧ s5 = .slice (some ⟨tb, 0, none⟩) gk 2 ∧ Hid (val (L.take gk) = n) ∧ ∃ g : G w [] [(tb, 29, u32s L)] [heapOf w], wr = g.w)
  case atStart => exact ⟨Nat.le_refl _, rfl, Lib.hid (by rw [List.take_of_length_le (by rw [HL2.out]; exact Nat.le_refl _)]; exact HVV.out), g, rfl⟩
  case round =>
    clear g
    obtain ⟨hj, rfl, HVJ, g, rfl⟩ := hrel
    have hfin : (blkF tb (.cells (u32s L).toArray 29 (0, 0))).Sl (some ⟨tb, 0, none⟩) 2 (limbs n) := by
      have := sl_trim (sl_blk (b := tb) (T := 29) (fr := (0, 0)) (c := 2) (by rw [HL2.out]; exact Nat.le_refl _) (by decide) hk)
      rwa [HVV.out] at this
    have HF := Lib.hid hfin
    clear hfin
    rcases Nat.eq_zero_or_pos gk with h0 | hj0
    · subst h0
      have hn0 : (limbs n).length = 0 := by
        rw [← HVJ.out, List.take_zero]; exact limbs_len0
      have HLE := Lib.hid hn0
      clear hn0
      go_wp2_with (with_reducible refine G.any_mark _ ?_; (try generalize Array.size (World.heap (G.w _)) = bk); (try dsimp only [List.set_cons_zero, List.set_cons_succ]); (try clear g); intro g)
      go_ret2
      exact ⟨some ⟨tb, 0, none⟩, 2, _, by rw [HLE.out]; rfl, HF.out, g.give (List.mem_cons_self ..)⟩
    · have e1 : (u32s L)[gk - 1]? = some (.int .u32 ((L.getD (gk - 1) 0 : Nat) : Int)) := u32s_getD (by rw [HL2.out]; omega)
      have hji : ((gk - 1 : Nat) : Int) = (gk : Int) - 1 := by omega
      have hj1 : (0 : Int) ≤ (gk : Int) - 1 := by omega
      have hj2 : (gk : Int) - 1 < (gk : Int) := by omega
      have hj3 : (0 : Int) < (gk : Int) := by omega
      generalize u32s L = U at *
      by_cases hx : L.getD (gk - 1) 0 = 0
      · have hv' : val (L.take (gk - 1)) = n := by
          rw [← HVJ.out]
          have := val_take_getD L (gk - 1)
          rw [show gk - 1 + 1 = gk by omega, hx] at this
          omega
        have HV' := Lib.hid hv'
        have hx1 : (((L.getD (gk - 1) 0 : Nat) : Int) == 0) = true := by simp only [hx]; rfl
        clear hv' hx
        generalize ((L.getD (gk - 1) 0 : Nat) : Int) = v at *
        go_wp2_with (with_reducible refine G.any_mark _ ?_; (try generalize Array.size (World.heap (G.w _)) = bk); (try dsimp only [List.set_cons_zero, List.set_cons_succ]); (try clear g); intro g)
        go_roundg (gk - 1)
        case measure => omega
        case rel => exact ⟨by omega, rfl, HV', g, rfl⟩
      · have hlen : (limbs n).length = gk := by
          have hl : (L.take gk).length = gk := by rw [List.length_take, HL2.out]; omega
          have t : Trim (L.take gk) := by
            intro j hj
            rw [hl] at hj
            rw [getD_take (by omega), show j = gk - 1 by omega]
            exact hx
          rw [← HVJ.out, limbs_val (hk.take gk) t, hl]
        have HLE := Lib.hid hlen
        have hx1 : (((L.getD (gk - 1) 0 : Nat) : Int) == 0) = false := by simp only [beq_eq_false_iff_ne, ne_eq]; omega
        clear hlen hx
        generalize ((L.getD (gk - 1) 0 : Nat) : Int) = v at *
        go_wp2_with (with_reducible refine G.any_mark _ ?_; (try generalize Array.size (World.heap (G.w _)) = bk); (try dsimp only [List.set_cons_zero, List.set_cons_succ]); (try clear g); intro g)
        go_ret2
        exact ⟨some ⟨tb, 0, none⟩, 2, _, by rw [HLE.out]; rfl, HF.out, g.give (List.mem_cons_self ..)⟩
set_option maxRecDepth 20000 in
theorem from_neg (n : Nat) (h0 : 0 < n) (h1 : n ≤ 9223372036854775808) (w : World) : Calls Tryz.prog 114 #[.int .i64 (-(n : Int))] w (RFrom n true w) := by
  refine calls_b fun g => ?_
  obtain ⟨a, ha⟩ : ∃ a : Int, -(n : Int) = a := ⟨_, rfl⟩
  rw [ha]
  have hneg : a < 0 := by omega
  obtain ⟨b, hb⟩ : ∃ b : Int, 18446744073709551616 - (n : Int) = b := ⟨_, rfl⟩
  have w1 : IntKind.u64.wrap a = b := by show a % 18446744073709551616 = b; omega
  have w2 : IntKind.u64.wrap (-b) = (n : Int) := by show (-b) % 18446744073709551616 = (n : Int); omega
  obtain ⟨hv, hk⟩ := two_limbs64 n (by omega)
  have HV := Lib.hid hv
  have e1 : (((n % 4294967296 : Nat)) : Int) = (n : Int) % 4294967296 := by omega
  have e2 : (((n / 4294967296 : Nat)) : Int) = (n : Int) / 4294967296 := by omega
  have E1 := Lib.hid e1
  have E2 := Lib.hid e2
  have hn64 : (n : Int) / 4294967296 < 4294967296 := by omega
  clear hv e1 e2 hb
  have h63 : -9223372036854775808 ≤ a := by omega
  go_enter Tryz.func114, Tryz.ntmps114
  go_wp2_with (with_reducible refine G.any_mark _ ?_; (try generalize Array.size (World.heap (G.w _)) = bk); (try dsimp only [List.set_cons_zero, List.set_cons_succ]); (try clear g); intro g)
  obtain ⟨L, hL⟩ : ∃ L, [n % 4294967296, n / 4294967296] = L := ⟨_, rfl⟩
  have hL2 : L.length = 2 := by rw [← hL]; rfl
  have HVL := HV.out
  obtain ⟨g2, hg2⟩ := g.as (M' := [(bk, 29, u32s L)]) (by rw [← hL]; simp only [u32s, List.map_cons, List.map_nil, E1.out, E2.out])
  rw [hg2]
  clear hg2 g
  revert g2
  intro g
  rw [hL] at hk HVL
  have HVV := Lib.hid HVL
  have HL2 := Lib.hid hL2
  clear HVL hL2 hL HV E1 E2
  obtain ⟨tb, rfl⟩ : ∃ tb, tb = bk := ⟨_, rfl⟩
  go_loopg [5] 2 (fun gk s5 wr => gk ≤ 2 ∧ s5 = .slice (some ⟨tb, 0, none⟩) gk 2 ∧ Hid (val (L.take gk) = n) ∧ ∃ g : G w [] [(tb, 29, u32s L)] [heapOf w], wr = g.w)
  case atStart => exact ⟨Nat.le_refl _, rfl, Lib.hid (by rw [List.take_of_length_le (by rw [HL2.out]; exact Nat.le_refl _)]; exact HVV.out), g, rfl⟩
  case round =>
    clear g
    obtain ⟨hj, rfl, HVJ, g, rfl⟩ := hrel
    have hfin : (blkF tb (.cells (u32s L).toArray 29 (0, 0))).Sl (some ⟨tb, 0, none⟩) 2 (limbs n) := by
      have := sl_trim (sl_blk (b := tb) (T := 29) (fr := (0, 0)) (c := 2) (by rw [HL2.out]; exact Nat.le_refl _) (by decide) hk)
      rwa [HVV.out] at this
    have HF := Lib.hid hfin
    clear hfin
    rcases Nat.eq_zero_or_pos gk with h0 | hj0
    · subst h0
      have hn0 : (limbs n).length = 0 := by
        rw [← HVJ.out, List.take_zero]; exact limbs_len0
      have HLE := Lib.hid hn0
      clear hn0
      go_wp2_with (with_reducible refine G.any_mark _ ?_; (try generalize Array.size (World.heap (G.w _)) = bk); (try dsimp only [List.set_cons_zero, List.set_cons_succ]); (try clear g); intro g)
      go_ret2
      exact ⟨some ⟨tb, 0, none⟩, 2, _, by rw [HLE.out]; rfl, HF.out, g.give (List.mem_cons_self ..)⟩
    · have e1 : (u32s L)[gk - 1]? = some (.int .u32 ((L.getD (gk - 1) 0 : Nat) : Int)) := u32s_getD (by rw [HL2.out]; omega)
      have hji : ((gk - 1 : Nat) : Int) = (gk : Int) - 1 := by omega
      have hj1 : (0 : Int) ≤ (gk : Int) - 1 := by omega
      have hj2 : (gk : Int) - 1 < (gk : Int) := by omega
      have hj3 : (0 : Int) < (gk : Int) := by omega
      generalize u32s L = U at *
      by_cases hx : L.getD (gk - 1) 0 = 0
      · have hv' : val (L.take (gk - 1)) = n := by
          rw [← HVJ.out]
          have := val_take_getD L (gk - 1)
          rw [show gk - 1 + 1 = gk by omega, hx] at this
          omega
        have HV' := Lib.hid hv'
        have hx1 : (((L.getD (gk - 1) 0 : Nat) : Int) == 0) = true := by simp only [hx]; rfl
        clear hv' hx
        generalize ((L.getD (gk - 1) 0 : Nat) : Int) = v at *
        go_wp2_with (with_reducible refine G.any_mark _ ?_; (try generalize Array.size (World.heap (G.w _)) = bk); (try dsimp only [List.set_cons_zero, List.set_cons_succ]); (try clear g); intro g)
        go_roundg (gk - 1)
        case measure => omega
        case rel => exact ⟨by omega, rfl, HV', g, rfl⟩
      · have hlen : (limbs n).length = gk := by
          have hl : (L.take gk).length = gk := by rw [List.length_take, HL2.out]; omega
          have t : Trim (L.take gk) := by
            intro j hj
            rw [hl] at hj
            rw [getD_take (by omega), show j = gk - 1 by omega]
            exact hx
          rw [← HVJ.out, limbs_val (hk.take gk) t, hl]
        have HLE := Lib.hid hlen
        have hx1 : (((L.getD (gk - 1) 0 : Nat) : Int) == 0) = false := by simp only [beq_eq_false_iff_ne, ne_eq]; omega
        clear hlen hx
        generalize ((L.getD (gk - 1) 0 : Nat) : Int) = v at *
        go_wp2_with (with_reducible refine G.any_mark _ ?_; (try generalize Array.size (World.heap (G.w _)) = bk); (try dsimp only [List.set_cons_zero, List.set_cons_succ]); (try clear g); intro g)
        go_ret2
        exact ⟨some ⟨tb, 0, none⟩, 2, _, by rw [HLE.out]; rfl, HF.out, g.give (List.mem_cons_self ..)⟩
end Go.Proofs.YtjdnpkicdmapnaaGreatDoor
namespace Go.Proofs.YtjdnpkicdmapnaaGreatDoor
open Go.RowKit GW NL
theorem from_any (a : Int) (h1 : -9223372036854775808 ≤ a) (h2 : a < 9223372036854775808) (w : World) : Calls Tryz.prog 114 #[.int .i64 a] w (RFrom a.natAbs (decide (a < 0)) w) := by
  by_cases h : a < 0
  · have := from_neg a.natAbs (by omega) (by omega) w
    rw [show -((a.natAbs : Nat) : Int) = a by omega] at this
    rwa [decide_eq_true h]
  · have := from_pos a.natAbs (by omega) w
    rw [show ((a.natAbs : Nat) : Int) = a by omega] at this
    rwa [decide_eq_false h]
/-- what the reference's Of answers -/
def ofY (a b : Int) : Bool × Nat × Nat × Int := if b = 0 then (false, 0, 0, 6) else (rneg (frac (decide (a < 0) != decide (b < 0)) a.natAbs b.natAbs), rn (frac (decide (a < 0) != decide (b < 0)) a.natAbs b.natAbs), (frac (decide (a < 0) != decide (b < 0)) a.natAbs b.natAbs).den, 0)
set_option maxRecDepth 20000 in
set_option maxHeartbeats 4000000 in
theorem rOf_any (a b : Int) (h1 : -9223372036854775808 ≤ a) (h2 : a < 9223372036854775808) (h3 : -9223372036854775808 ≤ b) (h4 : b < 9223372036854775808) (w : World) :
    Calls Tryz.prog 75 #[.int .i64 a, .int .i64 b] w (RPE (ofY a b) w) := by
  by_cases hb0 : b = 0
  · subst hb0
    refine calls_b fun g => ?_
    go_enter Tryz.func75, Tryz.ntmps75
    go_wp2_with (with_reducible refine G.any_mark _ ?_; (try generalize Array.size (World.heap (G.w _)) = bk); (try dsimp only [List.set_cons_zero, List.set_cons_succ]); (try clear g); intro g)
    refine bodyPost_ret (v := .tuple #[.agg #[.bool false, .slice none 0 0, .slice none 0 0], .int .i64 6]) (by simp [results, Tryz.results75, go_sem]) rfl ?_
    exact rpe_err _ _
  · have hd0 : b.natAbs ≠ 0 := by omega
    have hla : (limbs a.natAbs).length ≤ 2 := (limbs_len _ 2).2 (by rw [pow32]; omega)
    have hlb : (limbs b.natAbs).length ≤ 2 := (limbs_len _ 2).2 (by rw [pow32]; omega)
    unfold ofY
    rw [if_neg hb0]
    refine calls_b fun g => ?_
    have CSA := Lib.hid (fun w => from_any a h1 h2 w)
    have CSB := Lib.hid (fun w => from_any b h3 h4 w)
    have hbz : (b == 0) = false := by rw [beq_eq_false_iff_ne]; exact hb0
    generalize a.natAbs = na at *
    generalize b.natAbs = nb at *
    obtain ⟨sa, hsa⟩ : ∃ s, decide (a < 0) = s := ⟨_, rfl⟩
    obtain ⟨sb, hsb⟩ : ∃ s, decide (b < 0) = s := ⟨_, rfl⟩
    rw [hsa] at CSA ⊢
    rw [hsb] at CSB ⊢
    obtain ⟨sg, hsg⟩ : ∃ sg, (sa != sb) = sg := ⟨_, rfl⟩
    rw [hsg]
    have hsg2 : (!(sa == sb)) = sg := hsg
    clear hsa hsb
    have CL := Lib.hid (fun A c B k w h1 h2 => rLow_any sg A B c k na nb w h1 h2 (by omega) (by omega) hd0)
    unfold RNf at CL
    generalize frac sg na nb = x at *
    generalize rneg x = xs at *
    generalize rn x = xn at *
    generalize x.den = xd at *
    clear h1 h2 h3 h4 hla hlb hd0 hb0
    unfold RPE
    dsimp only
    go_enter Tryz.func75, Tryz.ntmps75
    go_wp2_with (with_reducible refine G.any_mark _ ?_; (try generalize Array.size (World.heap (G.w _)) = bk); (try dsimp only [List.set_cons_zero, List.set_cons_succ]); (try clear g); intro g)
    refine (CSA.out _).mono ?_
    rintro e w1 ⟨X1, x1, P1, rfl, hx1, hn1⟩
    obtain ⟨g1, rfl⟩ := G.new_ex _ hn1
    clear hn1
    (try clear g)
    revert g1
    intro g
    go_wp2_with (with_reducible refine G.any_mark _ ?_; (try generalize Array.size (World.heap (G.w _)) = bk); (try dsimp only [List.set_cons_zero, List.set_cons_succ]); (try clear g); intro g)
    refine (CSB.out _).mono ?_
    rintro e w1 ⟨X2, x2, P2, rfl, hx2, hn2⟩
    obtain ⟨g1, rfl⟩ := G.new_ex _ hn2
    clear hn2
    (try clear g)
    revert g1
    intro g
    go_wp2_with (with_reducible refine G.any_mark _ ?_; (try generalize Array.size (World.heap (G.w _)) = bk); (try dsimp only [List.set_cons_zero, List.set_cons_succ]); (try clear g); intro g)
    refine (CL.out _ _ _ _ _ (G.sl g (by simp) hx1) (G.sl g (by simp) hx2)).mono ?_
    rintro e w1 ⟨Z1, z1, R1, Z2, z2, R2, rfl, hz1, hz2, hn1, hn2⟩
    have ho1 := fun k o hk => Nat.le_trans (G.chg _).size (hn1.new k o hk)
    have ho2 := fun k o hk => Nat.le_trans (G.chg _).size (hn2.new k o hk)
    obtain ⟨g1, rfl⟩ := G.new2_ex _ hn1 hn2
    clear hn1 hn2
    (try clear g)
    revert g1
    intro g
    go_wp2_with (with_reducible refine G.any_mark _ ?_; (try generalize Array.size (World.heap (G.w _)) = bk); (try dsimp only [List.set_cons_zero, List.set_cons_succ]); (try clear g); intro g)
    refine bodyPost_ret (v := .tuple #[.agg #[.bool xs, .slice Z1 (limbs xn).length z1, .slice Z2 (limbs xd).length z2], .int .i64 0]) (by simp [results, Tryz.results75, go_sem]) rfl ?_
    exact ⟨Z1, z1, R1, Z2, z2, R2, rfl, hz1, hz2, G.pass _ (by simp) ho1, G.pass _ (by simp) ho2⟩
end Go.Proofs.YtjdnpkicdmapnaaGreatDoor
