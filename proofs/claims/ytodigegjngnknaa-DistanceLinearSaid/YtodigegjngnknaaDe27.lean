/- Plain facts and contracts of functions of the program, out of walks. Their conditions stand ahead of each. -/
import Derived.Test.YtodigegjngnknaaDe26
import Derived.Below
import Derived.BigQuiet
import Derived.Deep.Draws
import Derived.Deep.LoopGhost
import Derived.Deep.QuietTactic
import Derived.Deep.RegionHeld3
import Derived.Laws.CopyOwn
import Derived.Laws.NewBlocks
import Derived.Laws.OwnMore
import Derived.Laws.Pointers
import Derived.Laws.Rows
import Derived.Lib.BitFns
import Derived.Lib.Hide
import Derived.Lib.ItoaNum
import Derived.LoopIn
import Derived.LoopNIn
import Derived.Maps.AppendAt
import Derived.OrdersIn
import Derived.OwnWalk
import Derived.OwnWalkIn
import Derived.RangeFuncBound
import Derived.RangeFuncBox
import Derived.RangeFuncCalls
import Derived.RangeFuncLeaves
import Derived.RangeFuncNested
import Derived.RowKit3
import Derived.Shelf.Abstract
import Derived.Shelf.RegionOpen
import Derived.StillTactics
import Derived.StillTailTactics
import Derived.TacticsInMore
import Derived.Test.YtodigegjngnknaaProg
import Derived.WalkKit
import Derived.WalkLawsBesides
import Derived.WalkMore
import Derived.WalkSpells
set_option linter.unusedVariables false
set_option linter.unusedSimpArgs false
set_option exponentiation.threshold 10000
namespace Go.Proofs.Ytodigegjngnknaa
open Go.RowKit GW NL
theorem divide_any (A1 A2 : Option Addr) (c1 c2 a b : Nat) (w : World) (h1 : SlW w A1 c1 (limbs a)) (h2 : SlW w A2 c2 (limbs b)) (hl1 : (limbs a).length ≤ 100000000) (hb : b ≠ 0) :
    Calls Try.prog 81 #[.slice A1 (limbs a).length c1, .slice A2 (limbs b).length c2] w (RNN (a / b) (a % b) w) := by
  by_cases hab : a < b
  · exact divide_less A1 A2 c1 c2 a b w h1 h2 hl1 hab
  · have hne : (limbs b).length ≠ 0 := fun e => hb (limbs_nil.1 (List.eq_nil_of_length_eq_zero e))
    by_cases h : (limbs b).length = 1
    · exact divide_one A1 A2 c1 c2 a b w h1 h2 hl1 hab h
    · exact divide_long A1 A2 c1 c2 a b ((limbs b).length - 1) w h1 h2 hl1 hab (by omega) (by omega)
/-- two numbers and an error -/
def RNNE (q r : Nat) (x : Int) (w : World) (e : Ending) (w' : World) : Prop := ∃ A1 c1 F1 A2 c2 F2, e = .returned (.tuple #[.slice A1 (limbs q).length c1, .slice A2 (limbs r).length c2, .int .i64 x]) ∧ F1.Sl A1 c1 (limbs q) ∧ F2.Sl A2 c2 (limbs r) ∧ New w w' F1 ∧ New w w' F2
theorem rnne_err {w0 : World} {M : List Blk} {I : List Frag} (g : G w0 [] M I) (x : Int) : RNNE 0 0 x w0 (.returned (.tuple #[.slice none 0 0, .slice none 0 0, .int .i64 x])) g.w :=
  ⟨none, 0, (fun _ => none), none, 0, (fun _ => none), by rw [limbs_zero]; rfl, by rw [limbs_zero]; exact Frag.Sl.nil _ _, by rw [limbs_zero]; exact Frag.Sl.nil _ _, g.none, g.none⟩
set_option maxRecDepth 20000 in
theorem Div_err (A1 A2 : Option Addr) (c1 c2 : Nat) (l1 l2 : List Nat) (w : World) (h1 : SlW w A1 c1 l1) (h2 : SlW w A2 c2 l2) (hx : chk2 l1 l2 ≠ 0) :
    Calls Try.prog 54 #[.slice A1 l1.length c1, .slice A2 l2.length c2] w (RNNE 0 0 (chk2 l1 l2) w) := by
  refine calls_b fun g => ?_
  have CK := Lib.hid (fun b w h1 h2 e1 e2 => check2_any b A1 A2 c1 c2 l1 l2 w h1 h2 e1 e2)
  have hx' : (chk2 l1 l2 == 0) = false := by simpa using hx
  clear hx
  generalize chk2 l1 l2 = r at *
  generalize l1.length = n1 at *
  generalize l2.length = n2 at *
  go_enter Try.func54, Try.ntmps54
  go_wp2_with (with_reducible refine G.any_mark _ ?_; (try generalize Array.size (World.heap (G.w _)) = bk); (try dsimp only [List.set_cons_zero, List.set_cons_succ]); (try clear g); intro g)
  refine (CK.out _ _ (G.sl g (by simp) h1) (G.sl g (by simp) h2) ?_ ?_).mono ?_
  · go_simp
  · go_simp
  rintro e w1 ⟨rfl, hb⟩
  obtain ⟨g1, rfl⟩ := G.call_ex _ hb
  clear hb
  (try clear g)
  revert g1
  intro g
  go_wp2_with (with_reducible refine G.any_mark _ ?_; (try generalize Array.size (World.heap (G.w _)) = bk); (try dsimp only [List.set_cons_zero, List.set_cons_succ]); (try clear g); intro g)
  go_ret3
  exact rnne_err g r
set_option maxRecDepth 20000 in
theorem Div_zero (A1 A2 : Option Addr) (c1 c2 : Nat) (l1 : List Nat) (w : World) (h1 : SlW w A1 c1 l1) (h2 : SlW w A2 c2 []) (hx : chk2 l1 [] = 0) :
    Calls Try.prog 54 #[.slice A1 l1.length c1, .slice A2 0 c2] w (RNNE 0 0 6 w) := by
  refine calls_b fun g => ?_
  have CK := Lib.hid (fun b w h1 h2 e1 e2 => check2_any b A1 A2 c1 c2 l1 [] w h1 h2 e1 e2)
  rw [hx, List.length_nil] at CK
  clear hx
  generalize l1.length = n1 at *
  go_enter Try.func54, Try.ntmps54
  go_wp2_with (with_reducible refine G.any_mark _ ?_; (try generalize Array.size (World.heap (G.w _)) = bk); (try dsimp only [List.set_cons_zero, List.set_cons_succ]); (try clear g); intro g)
  refine (CK.out _ _ (G.sl g (by simp) h1) (G.sl g (by simp) h2) ?_ ?_).mono ?_
  · go_simp
  · go_simp
  rintro e w1 ⟨rfl, hb⟩
  obtain ⟨g1, rfl⟩ := G.call_ex _ hb
  clear hb
  (try clear g)
  revert g1
  intro g
  go_wp2_with (with_reducible refine G.any_mark _ ?_; (try generalize Array.size (World.heap (G.w _)) = bk); (try dsimp only [List.set_cons_zero, List.set_cons_succ]); (try clear g); intro g)
  go_ret3
  exact rnne_err g 6
set_option maxRecDepth 20000 in
theorem Div_ok (A1 A2 : Option Addr) (c1 c2 a b : Nat) (w : World) (h1 : SlW w A1 c1 (limbs a)) (h2 : SlW w A2 c2 (limbs b)) (ha : a < 2 ^ 8192) (hb : b < 2 ^ 8192) (hb0 : b ≠ 0) :
    Calls Try.prog 54 #[.slice A1 (limbs a).length c1, .slice A2 (limbs b).length c2] w (RNNE (a / b) (a % b) 0 w) := by
  refine calls_b fun g => ?_
  have CK := Lib.hid (fun b' w h1 h2 e1 e2 => check2_any b' A1 A2 c1 c2 (limbs a) (limbs b) w h1 h2 e1 e2)
  have hx : chk2 (limbs a) (limbs b) = 0 := by unfold chk2; rw [chk_limbs ha, chk_limbs hb]; rfl
  rw [hx] at CK
  have hl : (limbs a).length ≤ 256 := (limbs_len a 256).2 (by rw [pow32]; exact ha)
  have CD := Lib.hid (fun w h1 h2 => divide_any A1 A2 c1 c2 a b w h1 h2 (by omega) hb0)
  have hne : (((limbs b).length : Int) == 0) = false := by
    rw [beq_eq_false_iff_ne]
    intro e
    exact hb0 (limbs_nil.1 (List.eq_nil_of_length_eq_zero (by omega)))
  clear hx hl hb0 ha hb
  generalize a / b = q at *
  generalize a % b = r at *
  go_enter Try.func54, Try.ntmps54
  go_wp2_with (with_reducible refine G.any_mark _ ?_; (try generalize Array.size (World.heap (G.w _)) = bk); (try dsimp only [List.set_cons_zero, List.set_cons_succ]); (try clear g); intro g)
  refine (CK.out _ _ (G.sl g (by simp) h1) (G.sl g (by simp) h2) ?_ ?_).mono ?_
  · go_simp
  · go_simp
  rintro e w1 ⟨rfl, hb⟩
  obtain ⟨g1, rfl⟩ := G.call_ex _ hb
  clear hb
  (try clear g)
  revert g1
  intro g
  go_wp2_with (with_reducible refine G.any_mark _ ?_; (try generalize Array.size (World.heap (G.w _)) = bk); (try dsimp only [List.set_cons_zero, List.set_cons_succ]); (try clear g); intro g)
  refine (CD.out _ (G.sl g (by simp) h1) (G.sl g (by simp) h2)).mono ?_
  rintro e w1 ⟨Aq, cq, Fq, Ar, cr, Fr, rfl, hsq, hsr, hn1, hn2⟩
  have hnq := fun k o hk => Nat.le_trans g.chg.size (hn1.new k o hk)
  have hnr := fun k o hk => Nat.le_trans g.chg.size (hn2.new k o hk)
  obtain ⟨g1, rfl⟩ := G.new2_ex _ hn1 hn2
  clear hn1 hn2 g
  revert g1
  intro g
  go_wp2_with (with_reducible refine G.any_mark _ ?_; (try generalize Array.size (World.heap (G.w _)) = bk); (try dsimp only [List.set_cons_zero, List.set_cons_succ]); (try clear g); intro g)
  go_ret3
  exact ⟨_, _, _, _, _, _, rfl, hsq, hsr, g.pass (by simp) hnq, g.pass (by simp) hnr⟩
/-- what Div returns -/
def outD (e : Int) (a b : Nat) : Nat × Nat × Int := if e ≠ 0 then (0, 0, e) else if b = 0 then (0, 0, 6) else (a / b, a % b, 0)
theorem Div_any (A1 A2 : Option Addr) (c1 c2 : Nat) (l1 l2 : List Nat) (w : World) (h1 : SlW w A1 c1 l1) (h2 : SlW w A2 c2 l2) :
    Calls Try.prog 54 #[.slice A1 l1.length c1, .slice A2 l2.length c2] w (RNNE (outD (chk2 l1 l2) (val l1) (val l2)).1 (outD (chk2 l1 l2) (val l1) (val l2)).2.1 (outD (chk2 l1 l2) (val l1) (val l2)).2.2 w) := by
  unfold outD
  by_cases hx : chk2 l1 l2 = 0
  · rw [if_neg (by simpa using hx)]
    obtain ⟨k1, k2⟩ := chk2_ok hx
    obtain ⟨e1, b1, _⟩ := chk_ok h1.ok k1
    obtain ⟨e2, b2, _⟩ := chk_ok h2.ok k2
    by_cases h0 : val l2 = 0
    · rw [if_pos h0]
      rw [h0, limbs_zero] at e2
      subst e2
      exact Div_zero A1 A2 c1 c2 l1 w h1 h2 hx
    · rw [if_neg h0]
      have := Div_ok A1 A2 c1 c2 (val l1) (val l2) w (by rw [← e1]; exact h1) (by rw [← e2]; exact h2) b1 b2 h0
      rwa [← e1, ← e2] at this
  · rw [if_pos hx]
    exact Div_err A1 A2 c1 c2 l1 l2 w h1 h2 hx
end Go.Proofs.Ytodigegjngnknaa
namespace Go.Proofs.Ytodigegjngnknaa
open Go.RowKit GW NL
/-- what Gcd returns -/
def outG (e : Int) (a b : Nat) : Nat × Int := if e ≠ 0 then (0, e) else (Nat.gcd a b, 0)
end Go.Proofs.Ytodigegjngnknaa
