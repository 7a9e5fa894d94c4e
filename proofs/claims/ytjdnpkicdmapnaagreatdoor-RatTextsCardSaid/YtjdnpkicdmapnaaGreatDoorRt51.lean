/- Plain facts and contracts of functions of the program, out of walks. Their conditions stand ahead of each. -/
import Derived.Test.YtjdnpkicdmapnaaGreatDoorRt48
import Derived.Test.YtjdnpkicdmapnaaGreatDoorRt50
import Derived.Below
import Derived.BigQuiet
import Derived.Deep.Draws
import Derived.Deep.LoopGhost
import Derived.Deep.QuietTactic
import Derived.Deep.RegionHeld3
import Derived.Deep.RegionLaw
import Derived.Defers
import Derived.Ground.GgwProg
import Derived.LaidEql
import Derived.Laws.BytesString
import Derived.Laws.Cells
import Derived.Laws.Concat
import Derived.Laws.CopyOwn
import Derived.Laws.CopyRow
import Derived.Laws.IdiomStrings
import Derived.Laws.NewBlocks
import Derived.Laws.OwnMore
import Derived.Laws.Pointers
import Derived.Laws.Rows
import Derived.Laws.Runes
import Derived.Lib.BitFns
import Derived.Lib.Hide
import Derived.Lib.IndexLaws
import Derived.Lib.IndexMore
import Derived.Lib.ItoaNum
import Derived.Lib.TrailingZeros
import Derived.LoopIn
import Derived.LoopNIn
import Derived.Maps.AppendAt
import Derived.OrdersIn
import Derived.OwnWalk
import Derived.OwnWalkIn
import Derived.RangeFuncBound
import Derived.RangeFuncBox
import Derived.RangeFuncCalls
import Derived.RangeFuncLeaves
import Derived.RangeFuncNested
import Derived.RowKit3
import Derived.RowKitTokens
import Derived.Shelf.Abstract
import Derived.Shelf.GgClosure.StringsIndexFunc
import Derived.Shelf.GgClosure.StringsIndexFuncTop
import Derived.Shelf.RegionOpen
import Derived.Shelf.Small.Wraps
import Derived.Shelf.Spec.TrailingZeros
import Derived.Shelf.Strings.Cut
import Derived.Shelf.Strings.Prefix
import Derived.StillTactics
import Derived.StillTailTactics
import Derived.Stop.Asserts
import Derived.TacticsInMore
import Derived.Test.YtjdnpkicdmapnaaGreatDoorProg
import Derived.WalkKit
import Derived.WalkLawsBesides
import Derived.WalkMore
import Derived.WalkSpells
set_option linter.unusedVariables false
set_option linter.unusedSimpArgs false
set_option exponentiation.threshold 10000
namespace Go.Proofs.YtjdnpkicdmapnaaGreatDoor
open Go.RowKit GW NL
set_option maxRecDepth 20000 in
set_option maxHeartbeats 8000000 in
theorem texts_short (s : Bool) (A B : Option Addr) (c k : Nat) (l m : List Nat) (t : ByteArray) (mx : Int) (w : World) (h1 : SlW w A c l) (j1 : SlW w B k m) (hs : ¬ (40 < l.length ∨ 40 < m.length)) (ht : ¬ 3000 < t.size) (hm : w.cell? ⟨3, 0, none⟩ = some (.int .i64 mx)) (hg : w.cell? ⟨0, 0, none⟩ = some (.iface 145 (.agg #[.pointer (some ⟨4, 79, none⟩)]))) (hT : Tab w) :
    Calls Tryz.prog 4 #[.agg #[.bool s, .slice A l.length c, .slice B m.length k], .string t] w fun e w' => e = .returned (.bool true) ∧ Below w.heap.size w w' := by
  refine calls_b fun g => ?_
  have CL := Lib.hid llives_x
  have CT1 := Lib.hid (fun w h j t => qText_any s A B c k l m w h j t)
  have CT2 := Lib.hid (fun w h j => rText4_any s A B c k l m w h j)
  have CP1 := Lib.hid (fun w a b c => qParse_any t mx w a b c)
  have CP2 := Lib.hid (fun w => rParse_any t w)
  have ht2 : ¬ (3000 : Int) < (t.size : Int) := by omega
  obtain ⟨⟨ot, x1⟩, hr1⟩ : ∃ r, txtX s l m = r := ⟨_, rfl⟩
  obtain ⟨⟨er, pl, sg, n, d⟩, hr2⟩ : ∃ r, parP (bl t) = r := ⟨_, rfl⟩
  have hot : (ot == ot) = true := (ba_beq _ _).2 rfl
  rw [hr1] at CT1 CT2
  rw [hr2] at CP1 CP2
  unfold RPf at CP1 CP2
  dsimp only at CT1 CT2 CP1 CP2
  have S1 := Lib.hid (fun A1 B1 A2 B2 c1 k1 c2 k2 w h1 j1 h2 j2 => lsame_p sg A1 B1 A2 B2 c1 k1 c2 k2 n d w h1 j1 h2 j2)
  have H1 := Lib.hid h1
  have J1 := Lib.hid j1
  have HT := Lib.hid hT
  have HM := Lib.hid hm
  have HG := Lib.hid hg
  have HB : Hid (decide (40 < l.length ∨ 40 < m.length) = false) := Lib.hid (decide_eq_false hs)
  clear hs hr1 hr2 h1 j1 hT hm hg ht
  generalize l.length = ll at *
  generalize m.length = lm at *
  generalize (limbs n).length = ln1 at *
  generalize (limbs d).length = ld1 at *
  generalize (pl : Int) = p at *
  go_enter Tryz.func4, Tryz.ntmps4
  go_wp2_with (with_reducible refine G.any_mark _ ?_; (try generalize Array.size (World.heap (G.w _)) = bk); (try dsimp only [List.set_cons_zero, List.set_cons_succ]); (try clear g); intro g)
  refine (CL.out _ (G.tab g HT.out)).mono ?_
  rintro e w1 ⟨rfl, hb⟩
  obtain ⟨g1, rfl⟩ := G.call_ex _ hb
  clear hb
  (try clear g)
  revert g1
  intro g
  go_wp2_with (with_reducible refine G.any_mark _ ?_; (try generalize Array.size (World.heap (G.w _)) = bk); (try dsimp only [List.set_cons_zero, List.set_cons_succ]); (try clear g); intro g)
  (try (refine cmark _ ?_; (try dsimp only [List.set_cons_zero, List.set_cons_succ]); (try clear g); intro g))
  refine (long1 _ ll lm c k A B _ ?_ ?_ false HB).mono ?_
  · go_simp
  · go_simp
  rintro e w1 ⟨rfl, hb⟩
  obtain ⟨g1, rfl⟩ := G.call_ex _ hb
  clear hb
  (try clear g)
  revert g1
  intro g
  go_wp2_with (with_reducible refine G.any_mark _ ?_; (try generalize Array.size (World.heap (G.w _)) = bk); (try dsimp only [List.set_cons_zero, List.set_cons_succ]); (try clear g); intro g)
  (try (refine cmark _ ?_; (try dsimp only [List.set_cons_zero, List.set_cons_succ]); (try clear g); intro g))
  refine (CT1.out _ (G.sl g (by simp) H1.out) (G.sl g (by simp) J1.out) (G.tab g HT.out)).mono ?_
  rintro e w1 ⟨rfl, hb⟩
  obtain ⟨g1, rfl⟩ := G.call_ex _ hb
  clear hb
  (try clear g)
  revert g1
  intro g
  go_wp2_with (with_reducible refine G.any_mark _ ?_; (try generalize Array.size (World.heap (G.w _)) = bk); (try dsimp only [List.set_cons_zero, List.set_cons_succ]); (try clear g); intro g)
  (try (refine cmark _ ?_; (try dsimp only [List.set_cons_zero, List.set_cons_succ]); (try clear g); intro g))
  refine (CT2.out _ (G.sl g (by simp) H1.out) (G.sl g (by simp) J1.out)).mono ?_
  rintro e w1 ⟨rfl, hb⟩
  obtain ⟨g1, rfl⟩ := G.call_ex _ hb
  clear hb
  (try clear g)
  revert g1
  intro g
  go_wp2_with (with_reducible refine G.any_mark _ ?_; (try generalize Array.size (World.heap (G.w _)) = bk); (try dsimp only [List.set_cons_zero, List.set_cons_succ]); (try clear g); intro g)
  (as_aux_lemma =>
  (try (refine cmark _ ?_; (try dsimp only [List.set_cons_zero, List.set_cons_succ]); (try clear g); intro g))
  refine (CP1.out _ (G.oldcell g HM.out) (G.oldcell g HG.out) (G.tab g HT.out)).mono ?_
  rintro e w1 ⟨Ap, cp, Fp, Bp, dp, Hp, rfl, hsp, htp, hn, hm⟩
  have hnnp := fun k o hk => Nat.le_trans g.chg.size (hn.new k o hk)
  have hmmp := fun k o hk => Nat.le_trans g.chg.size (hm.new k o hk)
  obtain ⟨g1, rfl⟩ := G.new2_ex _ hn hm
  clear hn hm
  (try clear g)
  revert g1
  intro g
  go_wp2_with (with_reducible refine G.any_mark _ ?_; (try generalize Array.size (World.heap (G.w _)) = bk); (try dsimp only [List.set_cons_zero, List.set_cons_succ]); (try clear g); intro g)
  (try (refine cmark _ ?_; (try dsimp only [List.set_cons_zero, List.set_cons_succ]); (try clear g); intro g))
  refine (CP2.out _).mono ?_
  rintro e w1 ⟨Aq, cq, Fq, Bq, dq, Hq, rfl, hsq, htq, hn, hm⟩
  have hnnq := fun k o hk => Nat.le_trans g.chg.size (hn.new k o hk)
  have hmmq := fun k o hk => Nat.le_trans g.chg.size (hm.new k o hk)
  obtain ⟨g1, rfl⟩ := G.new2_ex _ hn hm
  clear hn hm
  (try clear g)
  revert g1
  intro g
  go_wp2_with (with_reducible refine G.any_mark _ ?_; (try generalize Array.size (World.heap (G.w _)) = bk); (try dsimp only [List.set_cons_zero, List.set_cons_succ]); (try clear g); intro g)
  (as_aux_lemma =>
  (try (refine cmark _ ?_; (try dsimp only [List.set_cons_zero, List.set_cons_succ]); (try clear g); intro g))
  refine (S1.out _ _ _ _ _ _ _ _ _ (G.sl g (by simp) hsp) (G.sl g (by simp) htp) (G.sl g (by simp) hsq) (G.sl g (by simp) htq)).mono ?_
  rintro e w1 ⟨rfl, hb⟩
  obtain ⟨g1, rfl⟩ := G.call_ex _ hb
  clear hb
  (try clear g)
  revert g1
  intro g
  go_wp2_with (with_reducible refine G.any_mark _ ?_; (try generalize Array.size (World.heap (G.w _)) = bk); (try dsimp only [List.set_cons_zero, List.set_cons_succ]); (try clear g); intro g)
  go_ret
  exact ⟨rfl, G.below _⟩))
theorem texts_long (s : Bool) (A B : Option Addr) (c k : Nat) (ll lm : Nat) (t : ByteArray) (w : World) (hs : 40 < ll ∨ 40 < lm) (hT : Tab w) :
    Calls Tryz.prog 4 #[.agg #[.bool s, .slice A ll c, .slice B lm k], .string t] w fun e w' => e = .returned (.bool true) ∧ Below w.heap.size w w' := by
  refine calls_b fun g => ?_
  have CL := Lib.hid llives_x
  have HT := Lib.hid hT
  have HB : Hid (decide (40 < ll ∨ 40 < lm) = true) := Lib.hid (decide_eq_true hs)
  clear hT hs
  go_enter Tryz.func4, Tryz.ntmps4
  go_wp2_with (with_reducible refine G.any_mark _ ?_; (try generalize Array.size (World.heap (G.w _)) = bk); (try dsimp only [List.set_cons_zero, List.set_cons_succ]); (try clear g); intro g)
  refine (CL.out _ (G.tab g HT.out)).mono ?_
  rintro e w1 ⟨rfl, hb⟩
  obtain ⟨g1, rfl⟩ := G.call_ex _ hb
  clear hb
  (try clear g)
  revert g1
  intro g
  go_wp2_with (with_reducible refine G.any_mark _ ?_; (try generalize Array.size (World.heap (G.w _)) = bk); (try dsimp only [List.set_cons_zero, List.set_cons_succ]); (try clear g); intro g)
  (try (refine cmark _ ?_; (try dsimp only [List.set_cons_zero, List.set_cons_succ]); (try clear g); intro g))
  refine (long1 _ ll lm c k A B _ ?_ ?_ true HB).mono ?_
  · go_simp
  · go_simp
  rintro e w1 ⟨rfl, hb⟩
  obtain ⟨g1, rfl⟩ := G.call_ex _ hb
  clear hb
  (try clear g)
  revert g1
  intro g
  go_wp2_with (with_reducible refine G.any_mark _ ?_; (try generalize Array.size (World.heap (G.w _)) = bk); (try dsimp only [List.set_cons_zero, List.set_cons_succ]); (try clear g); intro g)
  go_ret
  exact ⟨rfl, G.below _⟩
theorem texts_3000 (s : Bool) (A B : Option Addr) (c k : Nat) (ll lm : Nat) (t : ByteArray) (w : World) (hs : ¬ (40 < ll ∨ 40 < lm)) (ht : 3000 < t.size) (hT : Tab w) :
    Calls Tryz.prog 4 #[.agg #[.bool s, .slice A ll c, .slice B lm k], .string t] w fun e w' => e = .returned (.bool true) ∧ Below w.heap.size w w' := by
  refine calls_b fun g => ?_
  have CL := Lib.hid llives_x
  have HT := Lib.hid hT
  have HB : Hid (decide (40 < ll ∨ 40 < lm) = false) := Lib.hid (decide_eq_false hs)
  have ht2 : (3000 : Int) < (t.size : Int) := by omega
  clear hT hs ht
  go_enter Tryz.func4, Tryz.ntmps4
  go_wp2_with (with_reducible refine G.any_mark _ ?_; (try generalize Array.size (World.heap (G.w _)) = bk); (try dsimp only [List.set_cons_zero, List.set_cons_succ]); (try clear g); intro g)
  refine (CL.out _ (G.tab g HT.out)).mono ?_
  rintro e w1 ⟨rfl, hb⟩
  obtain ⟨g1, rfl⟩ := G.call_ex _ hb
  clear hb
  (try clear g)
  revert g1
  intro g
  go_wp2_with (with_reducible refine G.any_mark _ ?_; (try generalize Array.size (World.heap (G.w _)) = bk); (try dsimp only [List.set_cons_zero, List.set_cons_succ]); (try clear g); intro g)
  (try (refine cmark _ ?_; (try dsimp only [List.set_cons_zero, List.set_cons_succ]); (try clear g); intro g))
  refine (long1 _ ll lm c k A B _ ?_ ?_ false HB).mono ?_
  · go_simp
  · go_simp
  rintro e w1 ⟨rfl, hb⟩
  obtain ⟨g1, rfl⟩ := G.call_ex _ hb
  clear hb
  (try clear g)
  revert g1
  intro g
  go_wp2_with (with_reducible refine G.any_mark _ ?_; (try generalize Array.size (World.heap (G.w _)) = bk); (try dsimp only [List.set_cons_zero, List.set_cons_succ]); (try clear g); intro g)
  go_ret
  exact ⟨rfl, G.below _⟩
theorem texts_walk (s : Bool) (A B : Option Addr) (c k : Nat) (l m : List Nat) (t : ByteArray) (mx : Int) (w : World) (h1 : l.length ≤ 140737488355328 → SlW w A c l) (j1 : m.length ≤ 140737488355328 → SlW w B k m) (hm : w.cell? ⟨3, 0, none⟩ = some (.int .i64 mx)) (hg : w.cell? ⟨0, 0, none⟩ = some (.iface 145 (.agg #[.pointer (some ⟨4, 79, none⟩)]))) (hT : Tab w) :
    Calls Tryz.prog 4 #[.agg #[.bool s, .slice A l.length c, .slice B m.length k], .string t] w fun e w' => e = .returned (.bool true) ∧ Below w.heap.size w w' := by
  by_cases hs : 40 < l.length ∨ 40 < m.length
  · exact texts_long s A B c k l.length m.length t w hs hT
  · by_cases ht : 3000 < t.size
    · exact texts_3000 s A B c k l.length m.length t w hs ht hT
    · exact texts_short s A B c k l m t mx w (h1 (by omega)) (j1 (by omega)) hs ht hm hg hT
end Go.Proofs.YtjdnpkicdmapnaaGreatDoor
