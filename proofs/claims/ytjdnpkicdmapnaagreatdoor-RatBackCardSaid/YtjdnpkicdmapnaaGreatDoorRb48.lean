/- Plain facts and contracts of functions of the program, out of walks. Their conditions stand ahead of each. -/
import Derived.Test.YtjdnpkicdmapnaaGreatDoorRb43
import Derived.Test.YtjdnpkicdmapnaaGreatDoorRb47
import Derived.Below
import Derived.BigQuiet
import Derived.Deep.Draws
import Derived.Deep.LoopGhost
import Derived.Deep.QuietTactic
import Derived.Deep.RegionHeld3
import Derived.Deep.RegionLaw
import Derived.Defers
import Derived.Laws.BytesString
import Derived.Laws.Cells
import Derived.Laws.Concat
import Derived.Laws.CopyOwn
import Derived.Laws.CopyRow
import Derived.Laws.IdiomStrings
import Derived.Laws.NewBlocks
import Derived.Laws.OwnMore
import Derived.Laws.Pointers
import Derived.Laws.Rows
import Derived.Laws.Runes
import Derived.Lib.BitFns
import Derived.Lib.Hide
import Derived.Lib.ItoaNum
import Derived.Lib.TrailingZeros
import Derived.LoopIn
import Derived.LoopNIn
import Derived.Maps.AppendAt
import Derived.OrdersIn
import Derived.OwnWalk
import Derived.OwnWalkIn
import Derived.RangeFuncBound
import Derived.RangeFuncBox
import Derived.RangeFuncCalls
import Derived.RangeFuncLeaves
import Derived.RangeFuncNested
import Derived.RowKit3
import Derived.Shelf.Abstract
import Derived.Shelf.RegionOpen
import Derived.Shelf.Spec.TrailingZeros
import Derived.StillTactics
import Derived.StillTailTactics
import Derived.TacticsInMore
import Derived.Test.YtjdnpkicdmapnaaGreatDoorProg
import Derived.WalkKit
import Derived.WalkLawsBesides
import Derived.WalkMore
import Derived.WalkSpells
set_option linter.unusedVariables false
set_option linter.unusedSimpArgs false
set_option exponentiation.threshold 10000
namespace Go.Proofs.YtjdnpkicdmapnaaGreatDoor
open Go.RowKit GW NL
/-- what Text says of a number's parts -/
def txtX (s : Bool) (l m : List Nat) : ByteArray × Int := if rchk s l m ≠ 0 then ({ data := #[] }, rchk s l m) else (qtext s (val l) (val m), 0)
theorem qText_e (s : Bool) (A B : Option Addr) (c k : Nat) (l m : List Nat) (w : World) (h : rchk s l m ≠ 0) (h1 : SlW w A c l) (j1 : SlW w B k m) (hT : Tab w) :
    Calls Tryz.prog 25 #[.agg #[.bool s, .slice A l.length c, .slice B m.length k]] w fun e w' => e = .returned (.tuple #[.string { data := #[] }, .int .i64 (rchk s l m)]) ∧ Below w.heap.size w w' := by
  refine calls_b fun g => ?_
  have CK := Lib.hid (fun w a b t => rcheck s A B c k l m w a b t)
  have hp := rchk_err s l m
  generalize rchk s l m = x at *
  generalize l.length = ln at *
  generalize m.length = ld at *
  rcases hp with hp | hp | hp | hp
  · exact absurd hp h
  all_goals
    subst hp
    clear h
    go_enter Tryz.func25, Tryz.ntmps25
    go_wp2_with (with_reducible refine G.any_mark _ ?_; (try generalize Array.size (World.heap (G.w _)) = bk); (try dsimp only [List.set_cons_zero, List.set_cons_succ]); (try clear g); intro g)
    refine (CK.out _ (G.sl g (by simp) h1) (G.sl g (by simp) j1) (G.tab g hT)).mono ?_
    rintro e w1 ⟨rfl, hb⟩
    obtain ⟨g1, rfl⟩ := G.call_ex _ hb
    clear hb
    (try clear g)
    revert g1
    intro g
    go_wp2_with (with_reducible refine G.any_mark _ ?_; (try generalize Array.size (World.heap (G.w _)) = bk); (try dsimp only [List.set_cons_zero, List.set_cons_succ]); (try clear g); intro g)
    go_ret2
    exact ⟨rfl, G.below _⟩
theorem rText4_e (s : Bool) (A B : Option Addr) (c k : Nat) (l m : List Nat) (w : World) (h : rchk s l m ≠ 0) (h1 : SlW w A c l) (j1 : SlW w B k m) :
    Calls Tryz.prog 26 #[.agg #[.bool s, .slice A l.length c, .slice B m.length k]] w fun e w' => e = .returned (.tuple #[.string { data := #[] }, .int .i64 (rchk s l m)]) ∧ Below w.heap.size w w' := by
  refine calls_b fun g => ?_
  have CK := Lib.hid (fun w a b => rrcheck s A B c k l m w a b)
  have hp := rchk_err s l m
  generalize rchk s l m = x at *
  generalize l.length = ln at *
  generalize m.length = ld at *
  rcases hp with hp | hp | hp | hp
  · exact absurd hp h
  all_goals
    subst hp
    clear h
    go_enter Tryz.func26, Tryz.ntmps26
    go_wp2_with (with_reducible refine G.any_mark _ ?_; (try generalize Array.size (World.heap (G.w _)) = bk); (try dsimp only [List.set_cons_zero, List.set_cons_succ]); (try clear g); intro g)
    refine (CK.out _ (G.sl g (by simp) h1) (G.sl g (by simp) j1)).mono ?_
    rintro e w1 ⟨rfl, hb⟩
    obtain ⟨g1, rfl⟩ := G.call_ex _ hb
    clear hb
    (try clear g)
    revert g1
    intro g
    go_wp2_with (with_reducible refine G.any_mark _ ?_; (try generalize Array.size (World.heap (G.w _)) = bk); (try dsimp only [List.set_cons_zero, List.set_cons_succ]); (try clear g); intro g)
    go_ret2
    exact ⟨rfl, G.below _⟩
set_option maxRecDepth 20000 in
set_option maxHeartbeats 1000000 in
theorem rText4_x (A B : Option Addr) (c k : Nat) (x : Rat) (hx : Bd 8192 x) (w : World) (h1 : SlW w A c (limbs (rn x))) (j1 : SlW w B k (limbs x.den)) :
    Calls Tryz.prog 26 #[.agg #[.bool (rneg x), .slice A (limbs (rn x)).length c, .slice B (limbs x.den).length k]] w fun e w' => e = .returned (.tuple #[.string (qtext (rneg x) (rn x) x.den), .int .i64 0]) ∧ Below w.heap.size w w' := by
  refine calls_b fun g => ?_
  have C1 := Lib.hid (fun w h j => rrcheck (rneg x) A B c k (limbs (rn x)) (limbs x.den) w h j)
  rw [rchk_x hx] at C1
  have CT1 := Lib.hid (fun w h => rText_ok A c (rn x) w h hx.1)
  have CT2 := Lib.hid (fun w h => rText_ok B k x.den w h hx.2)
  have CU := Lib.hid (fun w h => isone_any B k x.den w h)
  have b1 := dec_bsz hx.1
  have b2 := dec_bsz hx.2
  have H1 := Lib.hid h1
  have J1 := Lib.hid j1
  unfold qtext
  clear hx h1 j1
  generalize bstr (dec (rn x)) = O1 at *
  generalize bstr (dec x.den) = O2 at *
  generalize rneg x = s at *
  generalize (limbs (rn x)).length = n at *
  generalize (limbs x.den).length = d at *
  have k1 : ¬ (9223372036854775807 < 1 + O1.size) := by omega
  have k2 : ¬ (9223372036854775807 < O1.size + 1) := by omega
  have k3 : ¬ (9223372036854775807 < O1.size + 1 + O2.size) := by omega
  have k4 : ¬ (9223372036854775807 < 1 + O1.size + 1) := by omega
  have k5 : ¬ (9223372036854775807 < 1 + O1.size + 1 + O2.size) := by omega
  clear b1 b2
  by_cases hd : x.den = 1
  · rw [if_pos hd]
    rw [decide_eq_true hd] at CU
    clear hd
    cases s
    · rw [if_neg (by decide)]
      go_enter Tryz.func26, Tryz.ntmps26
      go_wp2_with (with_reducible refine G.any_mark _ ?_; (try generalize Array.size (World.heap (G.w _)) = bk); (try dsimp only [List.set_cons_zero, List.set_cons_succ]); (try clear g); intro g)
      refine (C1.out _ (G.sl g (by simp) H1.out) (G.sl g (by simp) J1.out)).mono ?_
      rintro e w1 ⟨rfl, hb⟩
      obtain ⟨g1, rfl⟩ := G.call_ex _ hb
      clear hb
      (try clear g)
      revert g1
      intro g
      go_wp2_with (with_reducible refine G.any_mark _ ?_; (try generalize Array.size (World.heap (G.w _)) = bk); (try dsimp only [List.set_cons_zero, List.set_cons_succ]); (try clear g); intro g)
      refine (CT1.out _ (G.sl g (by simp) H1.out)).mono ?_
      rintro e w1 ⟨rfl, hb⟩
      obtain ⟨g1, rfl⟩ := G.call_ex _ hb
      clear hb
      (try clear g)
      revert g1
      intro g
      go_wp2_with (with_reducible refine G.any_mark _ ?_; (try generalize Array.size (World.heap (G.w _)) = bk); (try dsimp only [List.set_cons_zero, List.set_cons_succ]); (try clear g); intro g)
      refine (CU.out _ (G.sl g (by simp) J1.out)).mono ?_
      rintro e w1 ⟨rfl, rfl⟩
      go_wp2_with (with_reducible refine G.any_mark _ ?_; (try generalize Array.size (World.heap (G.w _)) = bk); (try dsimp only [List.set_cons_zero, List.set_cons_succ]); (try clear g); intro g)
      go_ret2
      exact ⟨rfl, G.below _⟩
    · rw [if_pos rfl]
      go_enter Tryz.func26, Tryz.ntmps26
      go_wp2_with (with_reducible refine G.any_mark _ ?_; (try generalize Array.size (World.heap (G.w _)) = bk); (try dsimp only [List.set_cons_zero, List.set_cons_succ]); (try clear g); intro g)
      refine (C1.out _ (G.sl g (by simp) H1.out) (G.sl g (by simp) J1.out)).mono ?_
      rintro e w1 ⟨rfl, hb⟩
      obtain ⟨g1, rfl⟩ := G.call_ex _ hb
      clear hb
      (try clear g)
      revert g1
      intro g
      go_wp2_with (with_reducible refine G.any_mark _ ?_; (try generalize Array.size (World.heap (G.w _)) = bk); (try dsimp only [List.set_cons_zero, List.set_cons_succ]); (try clear g); intro g)
      refine (CT1.out _ (G.sl g (by simp) H1.out)).mono ?_
      rintro e w1 ⟨rfl, hb⟩
      obtain ⟨g1, rfl⟩ := G.call_ex _ hb
      clear hb
      (try clear g)
      revert g1
      intro g
      go_wp2_with (with_reducible refine G.any_mark _ ?_; (try generalize Array.size (World.heap (G.w _)) = bk); (try dsimp only [List.set_cons_zero, List.set_cons_succ]); (try clear g); intro g)
      refine (CU.out _ (G.sl g (by simp) J1.out)).mono ?_
      rintro e w1 ⟨rfl, rfl⟩
      go_wp2_with (with_reducible refine G.any_mark _ ?_; (try generalize Array.size (World.heap (G.w _)) = bk); (try dsimp only [List.set_cons_zero, List.set_cons_succ]); (try clear g); intro g)
      go_ret2
      exact ⟨rfl, G.below _⟩
  · rw [if_neg hd]
    rw [decide_eq_false hd] at CU
    clear hd
    cases s
    · rw [if_neg (by decide)]
      go_enter Tryz.func26, Tryz.ntmps26
      go_wp2_with (with_reducible refine G.any_mark _ ?_; (try generalize Array.size (World.heap (G.w _)) = bk); (try dsimp only [List.set_cons_zero, List.set_cons_succ]); (try clear g); intro g)
      refine (C1.out _ (G.sl g (by simp) H1.out) (G.sl g (by simp) J1.out)).mono ?_
      rintro e w1 ⟨rfl, hb⟩
      obtain ⟨g1, rfl⟩ := G.call_ex _ hb
      clear hb
      (try clear g)
      revert g1
      intro g
      go_wp2_with (with_reducible refine G.any_mark _ ?_; (try generalize Array.size (World.heap (G.w _)) = bk); (try dsimp only [List.set_cons_zero, List.set_cons_succ]); (try clear g); intro g)
      refine (CT1.out _ (G.sl g (by simp) H1.out)).mono ?_
      rintro e w1 ⟨rfl, hb⟩
      obtain ⟨g1, rfl⟩ := G.call_ex _ hb
      clear hb
      (try clear g)
      revert g1
      intro g
      go_wp2_with (with_reducible refine G.any_mark _ ?_; (try generalize Array.size (World.heap (G.w _)) = bk); (try dsimp only [List.set_cons_zero, List.set_cons_succ]); (try clear g); intro g)
      refine (CU.out _ (G.sl g (by simp) J1.out)).mono ?_
      rintro e w1 ⟨rfl, rfl⟩
      go_wp2_with (with_reducible refine G.any_mark _ ?_; (try generalize Array.size (World.heap (G.w _)) = bk); (try dsimp only [List.set_cons_zero, List.set_cons_succ]); (try clear g); intro g)
      refine (CT2.out _ (G.sl g (by simp) J1.out)).mono ?_
      rintro e w1 ⟨rfl, hb⟩
      obtain ⟨g1, rfl⟩ := G.call_ex _ hb
      clear hb
      (try clear g)
      revert g1
      intro g
      go_wp2_with (with_reducible refine G.any_mark _ ?_; (try generalize Array.size (World.heap (G.w _)) = bk); (try dsimp only [List.set_cons_zero, List.set_cons_succ]); (try clear g); intro g)
      go_ret2
      exact ⟨rfl, G.below _⟩
    · rw [if_pos rfl]
      go_enter Tryz.func26, Tryz.ntmps26
      go_wp2_with (with_reducible refine G.any_mark _ ?_; (try generalize Array.size (World.heap (G.w _)) = bk); (try dsimp only [List.set_cons_zero, List.set_cons_succ]); (try clear g); intro g)
      refine (C1.out _ (G.sl g (by simp) H1.out) (G.sl g (by simp) J1.out)).mono ?_
      rintro e w1 ⟨rfl, hb⟩
      obtain ⟨g1, rfl⟩ := G.call_ex _ hb
      clear hb
      (try clear g)
      revert g1
      intro g
      go_wp2_with (with_reducible refine G.any_mark _ ?_; (try generalize Array.size (World.heap (G.w _)) = bk); (try dsimp only [List.set_cons_zero, List.set_cons_succ]); (try clear g); intro g)
      refine (CT1.out _ (G.sl g (by simp) H1.out)).mono ?_
      rintro e w1 ⟨rfl, hb⟩
      obtain ⟨g1, rfl⟩ := G.call_ex _ hb
      clear hb
      (try clear g)
      revert g1
      intro g
      go_wp2_with (with_reducible refine G.any_mark _ ?_; (try generalize Array.size (World.heap (G.w _)) = bk); (try dsimp only [List.set_cons_zero, List.set_cons_succ]); (try clear g); intro g)
      refine (CU.out _ (G.sl g (by simp) J1.out)).mono ?_
      rintro e w1 ⟨rfl, rfl⟩
      go_wp2_with (with_reducible refine G.any_mark _ ?_; (try generalize Array.size (World.heap (G.w _)) = bk); (try dsimp only [List.set_cons_zero, List.set_cons_succ]); (try clear g); intro g)
      refine (CT2.out _ (G.sl g (by simp) J1.out)).mono ?_
      rintro e w1 ⟨rfl, hb⟩
      obtain ⟨g1, rfl⟩ := G.call_ex _ hb
      clear hb
      (try clear g)
      revert g1
      intro g
      go_wp2_with (with_reducible refine G.any_mark _ ?_; (try generalize Array.size (World.heap (G.w _)) = bk); (try dsimp only [List.set_cons_zero, List.set_cons_succ]); (try clear g); intro g)
      go_ret2
      exact ⟨rfl, G.below _⟩
theorem qText_any (s : Bool) (A B : Option Addr) (c k : Nat) (l m : List Nat) (w : World) (h1 : SlW w A c l) (j1 : SlW w B k m) (hT : Tab w) :
    Calls Tryz.prog 25 #[.agg #[.bool s, .slice A l.length c, .slice B m.length k]] w fun e w' => e = .returned (.tuple #[.string (txtX s l m).1, .int .i64 (txtX s l m).2]) ∧ Below w.heap.size w w' := by
  by_cases h : rchk s l m = 0
  · obtain ⟨x, rfl, rfl, rfl, hx⟩ := rchk_val h1.ok j1.ok h
    have e : txtX (rneg x) (limbs (rn x)) (limbs x.den) = (qtext (rneg x) (rn x) x.den, 0) := by unfold txtX; rw [if_neg (by simpa using h), val_limbs, val_limbs]
    rw [e]
    exact qText_x A B c k x hx w h1 j1 hT
  · have e : txtX s l m = ({ data := #[] }, rchk s l m) := by unfold txtX; rw [if_pos h]
    rw [e]
    exact qText_e s A B c k l m w h h1 j1 hT
theorem rText4_any (s : Bool) (A B : Option Addr) (c k : Nat) (l m : List Nat) (w : World) (h1 : SlW w A c l) (j1 : SlW w B k m) :
    Calls Tryz.prog 26 #[.agg #[.bool s, .slice A l.length c, .slice B m.length k]] w fun e w' => e = .returned (.tuple #[.string (txtX s l m).1, .int .i64 (txtX s l m).2]) ∧ Below w.heap.size w w' := by
  by_cases h : rchk s l m = 0
  · obtain ⟨x, rfl, rfl, rfl, hx⟩ := rchk_val h1.ok j1.ok h
    have e : txtX (rneg x) (limbs (rn x)) (limbs x.den) = (qtext (rneg x) (rn x) x.den, 0) := by unfold txtX; rw [if_neg (by simpa using h), val_limbs, val_limbs]
    rw [e]
    exact rText4_x A B c k x hx w h1 j1
  · have e : txtX s l m = ({ data := #[] }, rchk s l m) := by unfold txtX; rw [if_pos h]
    rw [e]
    exact rText4_e s A B c k l m w h h1 j1
end Go.Proofs.YtjdnpkicdmapnaaGreatDoor
