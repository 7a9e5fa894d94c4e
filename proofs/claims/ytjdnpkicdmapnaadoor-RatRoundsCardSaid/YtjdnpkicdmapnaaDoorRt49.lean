/- Plain facts and contracts of functions of the program, out of walks. Their conditions stand ahead of each. -/
import Derived.Test.YtjdnpkicdmapnaaDoorRt48
import Derived.Below
import Derived.BigQuiet
import Derived.Deep.Draws
import Derived.Deep.LoopGhost
import Derived.Deep.QuietTactic
import Derived.Deep.RegionHeld3
import Derived.Deep.RegionLaw
import Derived.Defers
import Derived.Laws.BytesString
import Derived.Laws.Cells
import Derived.Laws.CopyOwn
import Derived.Laws.CopyRow
import Derived.Laws.NewBlocks
import Derived.Laws.OwnMore
import Derived.Laws.Pointers
import Derived.Laws.Rows
import Derived.Lib.BitFns
import Derived.Lib.Hide
import Derived.Lib.ItoaNum
import Derived.Lib.TrailingZeros
import Derived.LoopIn
import Derived.LoopNIn
import Derived.Maps.AppendAt
import Derived.OrdersIn
import Derived.OwnWalk
import Derived.OwnWalkIn
import Derived.RangeFuncBound
import Derived.RangeFuncBox
import Derived.RangeFuncCalls
import Derived.RangeFuncLeaves
import Derived.RangeFuncNested
import Derived.RowKit3
import Derived.Shelf.Abstract
import Derived.Shelf.RegionOpen
import Derived.Shelf.Spec.TrailingZeros
import Derived.StillTactics
import Derived.StillTailTactics
import Derived.TacticsInMore
import Derived.Test.YtjdnpkicdmapnaaDoorProg
import Derived.WalkKit
import Derived.WalkLawsBesides
import Derived.WalkMore
import Derived.WalkSpells
set_option linter.unusedVariables false
set_option linter.unusedSimpArgs false
set_option exponentiation.threshold 10000
namespace Go.Proofs.YtjdnpkicdmapnaaDoor
open Go.RowKit GW NL
theorem from_any (a : Int) (h1 : -9223372036854775808 ≤ a) (h2 : a < 9223372036854775808) (w : World) : Calls Tryd.prog 56 #[.int .i64 a] w (RFrom a.natAbs (decide (a < 0)) w) := by
  by_cases h : a < 0
  · have := from_neg a.natAbs (by omega) (by omega) w
    rw [show -((a.natAbs : Nat) : Int) = a by omega] at this
    rwa [decide_eq_true h]
  · have := from_pos a.natAbs (by omega) w
    rw [show ((a.natAbs : Nat) : Int) = a by omega] at this
    rwa [decide_eq_false h]
/-- what the reference's Of answers -/
def ofY (a b : Int) : Bool × Nat × Nat × Int := if b = 0 then (false, 0, 0, 6) else (rneg (frac (decide (a < 0) != decide (b < 0)) a.natAbs b.natAbs), rn (frac (decide (a < 0) != decide (b < 0)) a.natAbs b.natAbs), (frac (decide (a < 0) != decide (b < 0)) a.natAbs b.natAbs).den, 0)
set_option maxRecDepth 20000 in
set_option maxHeartbeats 4000000 in
theorem rOf_any (a b : Int) (h1 : -9223372036854775808 ≤ a) (h2 : a < 9223372036854775808) (h3 : -9223372036854775808 ≤ b) (h4 : b < 9223372036854775808) (w : World) :
    Calls Tryd.prog 25 #[.int .i64 a, .int .i64 b] w (RPE (ofY a b) w) := by
  by_cases hb0 : b = 0
  · subst hb0
    refine calls_b fun g => ?_
    go_enter Tryd.func25, Tryd.ntmps25
    go_wp2_with (with_reducible refine G.any_mark _ ?_; (try generalize Array.size (World.heap (G.w _)) = bk); (try dsimp only [List.set_cons_zero, List.set_cons_succ]); (try clear g); intro g)
    refine bodyPost_ret (v := .tuple #[.agg #[.bool false, .slice none 0 0, .slice none 0 0], .int .i64 6]) (by simp [results, Tryd.results25, go_sem]) rfl ?_
    exact rpe_err _ _
  · have hd0 : b.natAbs ≠ 0 := by omega
    have hla : (limbs a.natAbs).length ≤ 2 := (limbs_len _ 2).2 (by rw [pow32]; omega)
    have hlb : (limbs b.natAbs).length ≤ 2 := (limbs_len _ 2).2 (by rw [pow32]; omega)
    unfold ofY
    rw [if_neg hb0]
    refine calls_b fun g => ?_
    have CSA := Lib.hid (fun w => from_any a h1 h2 w)
    have CSB := Lib.hid (fun w => from_any b h3 h4 w)
    have hbz : (b == 0) = false := by rw [beq_eq_false_iff_ne]; exact hb0
    generalize a.natAbs = na at *
    generalize b.natAbs = nb at *
    obtain ⟨sa, hsa⟩ : ∃ s, decide (a < 0) = s := ⟨_, rfl⟩
    obtain ⟨sb, hsb⟩ : ∃ s, decide (b < 0) = s := ⟨_, rfl⟩
    rw [hsa] at CSA ⊢
    rw [hsb] at CSB ⊢
    obtain ⟨sg, hsg⟩ : ∃ sg, (sa != sb) = sg := ⟨_, rfl⟩
    rw [hsg]
    have hsg2 : (!(sa == sb)) = sg := hsg
    clear hsa hsb
    have CL := Lib.hid (fun A c B k w h1 h2 => rLow_any sg A B c k na nb w h1 h2 (by omega) (by omega) hd0)
    unfold RNf at CL
    generalize frac sg na nb = x at *
    generalize rneg x = xs at *
    generalize rn x = xn at *
    generalize x.den = xd at *
    clear h1 h2 h3 h4 hla hlb hd0 hb0
    unfold RPE
    dsimp only
    go_enter Tryd.func25, Tryd.ntmps25
    go_wp2_with (with_reducible refine G.any_mark _ ?_; (try generalize Array.size (World.heap (G.w _)) = bk); (try dsimp only [List.set_cons_zero, List.set_cons_succ]); (try clear g); intro g)
    refine (CSA.out _).mono ?_
    rintro e w1 ⟨X1, x1, P1, rfl, hx1, hn1⟩
    obtain ⟨g1, rfl⟩ := G.new_ex _ hn1
    clear hn1
    (try clear g)
    revert g1
    intro g
    go_wp2_with (with_reducible refine G.any_mark _ ?_; (try generalize Array.size (World.heap (G.w _)) = bk); (try dsimp only [List.set_cons_zero, List.set_cons_succ]); (try clear g); intro g)
    refine (CSB.out _).mono ?_
    rintro e w1 ⟨X2, x2, P2, rfl, hx2, hn2⟩
    obtain ⟨g1, rfl⟩ := G.new_ex _ hn2
    clear hn2
    (try clear g)
    revert g1
    intro g
    go_wp2_with (with_reducible refine G.any_mark _ ?_; (try generalize Array.size (World.heap (G.w _)) = bk); (try dsimp only [List.set_cons_zero, List.set_cons_succ]); (try clear g); intro g)
    refine (CL.out _ _ _ _ _ (G.sl g (by simp) hx1) (G.sl g (by simp) hx2)).mono ?_
    rintro e w1 ⟨Z1, z1, R1, Z2, z2, R2, rfl, hz1, hz2, hn1, hn2⟩
    have ho1 := fun k o hk => Nat.le_trans (G.chg _).size (hn1.new k o hk)
    have ho2 := fun k o hk => Nat.le_trans (G.chg _).size (hn2.new k o hk)
    obtain ⟨g1, rfl⟩ := G.new2_ex _ hn1 hn2
    clear hn1 hn2
    (try clear g)
    revert g1
    intro g
    go_wp2_with (with_reducible refine G.any_mark _ ?_; (try generalize Array.size (World.heap (G.w _)) = bk); (try dsimp only [List.set_cons_zero, List.set_cons_succ]); (try clear g); intro g)
    refine bodyPost_ret (v := .tuple #[.agg #[.bool xs, .slice Z1 (limbs xn).length z1, .slice Z2 (limbs xd).length z2], .int .i64 0]) (by simp [results, Tryd.results25, go_sem]) rfl ?_
    exact ⟨Z1, z1, R1, Z2, z2, R2, rfl, hz1, hz2, G.pass _ (by simp) ho1, G.pass _ (by simp) ho2⟩
end Go.Proofs.YtjdnpkicdmapnaaDoor
