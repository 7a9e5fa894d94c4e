/- Plain facts and contracts of functions of the program, out of walks. Their conditions stand ahead of each. -/
import Derived.Test.YtjdnpkicdmapnaaGreatDoorNm35
import Derived.Test.YtjdnpkicdmapnaaGreatDoorNm37
import Derived.Below
import Derived.BigQuiet
import Derived.Deep.Draws
import Derived.Deep.LoopGhost
import Derived.Deep.QuietTactic
import Derived.Deep.RegionHeld3
import Derived.Deep.RegionLaw
import Derived.Defers
import Derived.Ground.GgwProg
import Derived.LaidEql
import Derived.Laws.BytesString
import Derived.Laws.Cells
import Derived.Laws.Concat
import Derived.Laws.CopyOwn
import Derived.Laws.CopyRow
import Derived.Laws.IdiomStrings
import Derived.Laws.NewBlocks
import Derived.Laws.OwnMore
import Derived.Laws.Pointers
import Derived.Laws.Rows
import Derived.Lib.BitFns
import Derived.Lib.Hide
import Derived.Lib.IndexLaws
import Derived.Lib.IndexMore
import Derived.Lib.ItoaNum
import Derived.Lib.TrailingZeros
import Derived.LoopIn
import Derived.LoopNIn
import Derived.Maps.AppendAt
import Derived.OrdersIn
import Derived.OwnWalk
import Derived.OwnWalkIn
import Derived.RangeFuncBound
import Derived.RangeFuncBox
import Derived.RangeFuncCalls
import Derived.RangeFuncLeaves
import Derived.RangeFuncNested
import Derived.RowKit3
import Derived.RowKitTokens
import Derived.Shelf.Abstract
import Derived.Shelf.GgClosure.StringsIndexFunc
import Derived.Shelf.GgClosure.StringsIndexFuncTop
import Derived.Shelf.RegionOpen
import Derived.Shelf.Small.Wraps
import Derived.Shelf.Spec.TrailingZeros
import Derived.Shelf.Strings.Cut
import Derived.Shelf.Strings.Prefix
import Derived.StillTactics
import Derived.StillTailTactics
import Derived.Stop.Asserts
import Derived.TacticsInMore
import Derived.Test.YtjdnpkicdmapnaaGreatDoorProg
import Derived.WalkKit
import Derived.WalkLawsBesides
import Derived.WalkMore
import Derived.WalkSpells
set_option linter.unusedVariables false
set_option linter.unusedSimpArgs false
set_option exponentiation.threshold 10000
namespace Go.Proofs.YtjdnpkicdmapnaaGreatDoor
open Go.RowKit GW NL
theorem nat_frac (n : Nat) : rneg (frac false n 1) = false ∧ rn (frac false n 1) = n ∧ (frac false n 1).den = 1 := frac_parts (by decide) (Nat.gcd_one_right n) (by intro h; cases h)
theorem qParse_at (t : ByteArray) (x : Rat) (mx : Int) (w : World) (h : parP (bl t) = (0, 0, (rneg x, rn x, x.den))) (hm : w.cell? ⟨3, 0, none⟩ = some (.int .i64 mx)) (hg : w.cell? ⟨0, 0, none⟩ = some (.iface 145 (.agg #[.pointer (some ⟨4, 79, none⟩)]))) (hT : Tab w) :
    Calls Tryz.prog 27 #[.string t] w fun e w' => ∃ A c F B k H, e = .returned (.tuple #[.agg #[.bool (rneg x), .slice A (limbs (rn x)).length c, .slice B (limbs x.den).length k], .agg #[.int .i64 0, .int .i64 0]]) ∧ F.Sl A c (limbs (rn x)) ∧ H.Sl B k (limbs x.den) ∧ New w w' F ∧ New w w' H := by
  have := qParse_any t mx w hm hg hT
  rw [h] at this
  exact this
theorem lsame_p (s : Bool) (A1 B1 A2 B2 : Option Addr) (c1 k1 c2 k2 n d : Nat) (w : World) (h1 : SlW w A1 c1 (limbs n)) (j1 : SlW w B1 k1 (limbs d)) (h2 : SlW w A2 c2 (limbs n)) (j2 : SlW w B2 k2 (limbs d)) :
    Calls Tryz.prog 24 #[.agg #[.bool s, .slice A1 (limbs n).length c1, .slice B1 (limbs d).length k1], .agg #[.bool s, .slice A2 (limbs n).length c2, .slice B2 (limbs d).length k2]] w fun e w' => e = .returned (.bool true) ∧ Below w.heap.size w w' := by
  refine calls_b fun g => ?_
  have C1 := Lib.hid (fun w h1 h2 => same_any A1 A2 c1 c2 (limbs n) w h1 h2)
  have C2 := Lib.hid (fun w h1 h2 => same_any B1 B2 k1 k2 (limbs d) w h1 h2)
  have H1 := Lib.hid h1
  have H2 := Lib.hid h2
  have J1 := Lib.hid j1
  have J2 := Lib.hid j2
  clear h1 h2 j1 j2
  generalize (limbs n).length = ln at *
  generalize (limbs d).length = ld at *
  go_enter Tryz.func24, Tryz.ntmps24
  go_wp2_with (with_reducible refine G.any_mark _ ?_; (try generalize Array.size (World.heap (G.w _)) = bk); (try dsimp only [List.set_cons_zero, List.set_cons_succ]); (try clear g); intro g)
  refine (C1.out _ (G.sl g (by simp) H1.out) (G.sl g (by simp) H2.out)).mono ?_
  rintro e w1 ⟨rfl, hb⟩
  obtain ⟨g1, rfl⟩ := G.call_ex _ hb
  clear hb
  (try clear g)
  revert g1
  intro g
  go_wp2_with (with_reducible refine G.any_mark _ ?_; (try generalize Array.size (World.heap (G.w _)) = bk); (try dsimp only [List.set_cons_zero, List.set_cons_succ]); (try clear g); intro g)
  refine (C2.out _ (G.sl g (by simp) J1.out) (G.sl g (by simp) J2.out)).mono ?_
  rintro e w1 ⟨rfl, hb⟩
  obtain ⟨g1, rfl⟩ := G.call_ex _ hb
  clear hb
  (try clear g)
  revert g1
  intro g
  go_wp2_with (with_reducible refine G.any_mark _ ?_; (try generalize Array.size (World.heap (G.w _)) = bk); (try dsimp only [List.set_cons_zero, List.set_cons_succ]); (try clear g); intro g)
  go_ret
  exact ⟨rfl, G.below _⟩
end Go.Proofs.YtjdnpkicdmapnaaGreatDoor
