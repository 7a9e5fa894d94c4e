/- Plain facts and contracts of functions of the program, out of walks. Their conditions stand ahead of each. -/
import Derived.Test.YtodigegjngnknaaDe17
import Derived.Below
import Derived.BigQuiet
import Derived.Deep.Draws
import Derived.Deep.QuietTactic
import Derived.Deep.RegionHeld3
import Derived.Laws.NewBlocks
import Derived.Laws.OwnMore
import Derived.Laws.Pointers
import Derived.Laws.Rows
import Derived.Lib.BitFns
import Derived.Lib.Hide
import Derived.Lib.ItoaNum
import Derived.LoopIn
import Derived.LoopNIn
import Derived.OwnWalkIn
import Derived.RangeFuncBound
import Derived.RangeFuncBox
import Derived.RangeFuncCalls
import Derived.RangeFuncLeaves
import Derived.RangeFuncNested
import Derived.RowKit3
import Derived.Shelf.Abstract
import Derived.Shelf.RegionOpen
import Derived.StillTactics
import Derived.StillTailTactics
import Derived.TacticsInMore
import Derived.Test.YtodigegjngnknaaProg
import Derived.WalkKit
import Derived.WalkLawsBesides
import Derived.WalkSpells
set_option linter.unusedVariables false
set_option linter.unusedSimpArgs false
set_option exponentiation.threshold 10000
namespace Go.Proofs.Ytodigegjngnknaa
open Go.RowKit GW NL
theorem ord_len {a b : Nat} (h : (limbs a).length ≠ (limbs b).length) : ord (limbs a).length (limbs b).length = ord a b := by
  unfold ord
  rcases Nat.lt_or_gt_of_ne h with h | h
  · rw [if_pos h, if_pos (limbs_lt_of_len h)]
  · have := limbs_lt_of_len h
    rw [if_neg (by omega), if_pos h, if_neg (by omega), if_pos this]
theorem compare_any (A B : Option Addr) (ca cb a b : Nat) (w : World) (ha : SlW w A ca (limbs a)) (hb : SlW w B cb (limbs b)) (hl : (limbs a).length ≤ 35184372088832) :
    Calls Try.prog 79 #[.slice A (limbs a).length ca, .slice B (limbs b).length cb] w fun e w' => e = .returned (.int .i64 (ord a b)) ∧ Below w.heap.size w w' := by
  by_cases hn : (limbs a).length = (limbs b).length
  · have hb' := limB_of hb
    rw [← hn] at hb' ⊢
    have := compare_same A B ca cb (limbs a).length (limbs a) (limbs b) w (limB_of ha) hb' rfl hn.symm (ok_limbs a) (ok_limbs b) hl
    rw [val_limbs, val_limbs] at this
    exact callsIn_wide.1 this
  · have C := Lib.hid (fun w => cmpI_any (limbs a).length (limbs b).length w)
    rw [ord_len hn] at C
    have hne := ord_ne (x := a) (y := b) (fun e => hn (by rw [e]))
    have m1 := ha.cap
    have m2 := ha.len
    have m3 := hb.cap
    have m4 := hb.len
    clear ha hb hn
    generalize ord a b = r at *
    generalize (limbs a).length = n1 at *
    generalize (limbs b).length = n2 at *
    refine calls_g fun g => ?_
    go_enter Try.func79, Try.ntmps79
    go_wp2_with (with_reducible refine G.any_mark _ ?_; (try generalize Array.size (World.heap (G.w _)) = bk); (try dsimp only [List.set_cons_zero, List.set_cons_succ]); (try clear g); intro g)
    refine (C.out _).mono ?_
    rintro e w1 ⟨rfl, rfl⟩
    go_wp2_with (with_reducible refine G.any_mark _ ?_; (try generalize Array.size (World.heap (G.w _)) = bk); (try dsimp only [List.set_cons_zero, List.set_cons_succ]); (try clear g); intro g)
    refine bodyPost_ret (v := .int .i64 r) (by simp [results, Try.f79, go_sem]) rfl ⟨rfl, G.below _⟩
end Go.Proofs.Ytodigegjngnknaa
namespace Go.Proofs.Ytodigegjngnknaa
open Go.RowKit GW NL
theorem chk_ok {l : List Nat} (hk : Ok l) (h : chk l = 0) : l = limbs (val l) ∧ val l < 2 ^ 8192 ∧ l.length ≤ 256 := by
  unfold chk at h
  by_cases h1 : 256 < l.length
  · rw [if_pos h1] at h; cases h
  · rw [if_neg h1] at h
    by_cases h2 : 0 < l.length ∧ l.getD (l.length - 1) 0 = 0
    · rw [if_pos h2] at h; cases h
    · have t : Trim l := by
        intro k hk2 h0
        exact h2 ⟨by omega, by rw [hk2]; exact h0⟩
      have e := limbs_val hk t
      refine ⟨e.symm, ?_, by omega⟩
      have := (limbs_len (val l) 256).1 (by rw [e]; omega)
      rwa [pow32] at this
theorem chk_limbs {v : Nat} (h : v < 2 ^ 8192) : chk (limbs v) = 0 := by
  have hl : (limbs v).length ≤ 256 := (limbs_len v 256).2 (by rw [pow32]; exact h)
  unfold chk
  rw [if_neg (by omega), if_neg]
  rintro ⟨h0, h1⟩
  exact trim_limbs v ((limbs v).length - 1) (by omega) h1
theorem chk2_ok {l1 l2 : List Nat} (h : chk2 l1 l2 = 0) : chk l1 = 0 ∧ chk l2 = 0 := by
  unfold chk2 at h
  split at h
  · next h1 => exact absurd h h1
  · next h1 => exact ⟨by simpa using h1, h⟩
def outC (e : Int) (c : Int) : Int × Int := if e ≠ 0 then (0, e) else (c, 0)
set_option maxRecDepth 20000 in
theorem Cmp_any (A1 A2 : Option Addr) (c1 c2 : Nat) (l1 l2 : List Nat) (w : World) (h1 : SlW w A1 c1 l1) (h2 : SlW w A2 c2 l2) :
    Calls Try.prog 51 #[.slice A1 l1.length c1, .slice A2 l2.length c2] w fun e w' => e = .returned (.tuple #[.int .i64 (outC (chk2 l1 l2) (ord (val l1) (val l2))).1, .int .i64 (outC (chk2 l1 l2) (ord (val l1) (val l2))).2]) ∧ Below w.heap.size w w' := by
  refine calls_b fun g => ?_
  have CK := Lib.hid (fun b w h1 h2 e1 e2 => check2_any b A1 A2 c1 c2 l1 l2 w h1 h2 e1 e2)
  by_cases hc : chk2 l1 l2 = 0
  · obtain ⟨k1, k2⟩ := chk2_ok hc
    obtain ⟨e1, _, n1⟩ := chk_ok h1.ok k1
    obtain ⟨e2, _, n2⟩ := chk_ok h2.ok k2
    have CC := Lib.hid (fun w h1 h2 h => compare_any A1 A2 c1 c2 (val l1) (val l2) w h1 h2 h)
    rw [← e1, ← e2] at CC
    have CC' := Lib.hid (fun w h1 h2 => CC.out w h1 h2 (by omega))
    rw [hc] at CK ⊢
    unfold outC
    rw [if_neg (by simp)]
    clear hc k1 k2 e1 e2 n1 n2 CC
    generalize ord (val l1) (val l2) = r at *
    generalize l1.length = n1 at *
    generalize l2.length = n2 at *
    go_enter Try.func51, Try.ntmps51
    go_wp2_with (with_reducible refine G.any_mark _ ?_; (try generalize Array.size (World.heap (G.w _)) = bk); (try dsimp only [List.set_cons_zero, List.set_cons_succ]); (try clear g); intro g)
    refine (CK.out _ _ (G.sl g (by simp) h1) (G.sl g (by simp) h2) ?_ ?_).mono ?_
    · go_simp
    · go_simp
    rintro e w1 ⟨rfl, hb⟩
    obtain ⟨g1, rfl⟩ := G.call_ex _ hb
    clear hb
    (try clear g)
    revert g1
    intro g
    go_wp2_with (with_reducible refine G.any_mark _ ?_; (try generalize Array.size (World.heap (G.w _)) = bk); (try dsimp only [List.set_cons_zero, List.set_cons_succ]); (try clear g); intro g)
    refine (CC'.out _ (G.sl g (by simp) h1) (G.sl g (by simp) h2)).mono ?_
    rintro e w1 ⟨rfl, hb⟩
    obtain ⟨g1, rfl⟩ := G.call_ex _ hb
    clear hb
    (try clear g)
    revert g1
    intro g
    go_wp2_with (with_reducible refine G.any_mark _ ?_; (try generalize Array.size (World.heap (G.w _)) = bk); (try dsimp only [List.set_cons_zero, List.set_cons_succ]); (try clear g); intro g)
    go_ret2
    exact ⟨rfl, G.below _⟩
  · unfold outC
    rw [if_pos hc]
    have hx : (chk2 l1 l2 == 0) = false := by simpa using hc
    clear hc
    generalize chk2 l1 l2 = r at *
    generalize l1.length = n1 at *
    generalize l2.length = n2 at *
    go_enter Try.func51, Try.ntmps51
    go_wp2_with (with_reducible refine G.any_mark _ ?_; (try generalize Array.size (World.heap (G.w _)) = bk); (try dsimp only [List.set_cons_zero, List.set_cons_succ]); (try clear g); intro g)
    refine (CK.out _ _ (G.sl g (by simp) h1) (G.sl g (by simp) h2) ?_ ?_).mono ?_
    · go_simp
    · go_simp
    rintro e w1 ⟨rfl, hb⟩
    obtain ⟨g1, rfl⟩ := G.call_ex _ hb
    clear hb
    (try clear g)
    revert g1
    intro g
    go_wp2_with (with_reducible refine G.any_mark _ ?_; (try generalize Array.size (World.heap (G.w _)) = bk); (try dsimp only [List.set_cons_zero, List.set_cons_succ]); (try clear g); intro g)
    go_ret2
    exact ⟨rfl, G.below _⟩
def outS (e : Int) (a b : Nat) : Nat × Int := if e ≠ 0 then (0, e) else if a < b then (0, 2) else (a - b, 0)
end Go.Proofs.Ytodigegjngnknaa
