/- Plain facts and contracts of functions of the program, out of walks. Their conditions stand ahead of each. -/
import Derived.Test.YtjdnpkicdmapnaaGreatDoorNm12
import Derived.Test.YtjdnpkicdmapnaaGreatDoorNm36
import Derived.Below
import Derived.BigQuiet
import Derived.Deep.Draws
import Derived.Deep.LoopGhost
import Derived.Deep.QuietTactic
import Derived.Deep.RegionHeld3
import Derived.Deep.RegionLaw
import Derived.Defers
import Derived.Ground.GgwProg
import Derived.LaidEql
import Derived.Laws.BytesString
import Derived.Laws.Cells
import Derived.Laws.CopyOwn
import Derived.Laws.CopyRow
import Derived.Laws.IdiomStrings
import Derived.Laws.NewBlocks
import Derived.Laws.OwnMore
import Derived.Laws.Pointers
import Derived.Laws.Rows
import Derived.Lib.BitFns
import Derived.Lib.Hide
import Derived.Lib.IndexLaws
import Derived.Lib.IndexMore
import Derived.Lib.ItoaNum
import Derived.Lib.TrailingZeros
import Derived.LoopIn
import Derived.LoopNIn
import Derived.Maps.AppendAt
import Derived.OrdersIn
import Derived.OwnWalk
import Derived.OwnWalkIn
import Derived.RangeFuncBound
import Derived.RangeFuncBox
import Derived.RangeFuncCalls
import Derived.RangeFuncLeaves
import Derived.RangeFuncNested
import Derived.RowKit3
import Derived.RowKitTokens
import Derived.Shelf.Abstract
import Derived.Shelf.GgClosure.StringsIndexFunc
import Derived.Shelf.GgClosure.StringsIndexFuncTop
import Derived.Shelf.RegionOpen
import Derived.Shelf.Small.Wraps
import Derived.Shelf.Spec.TrailingZeros
import Derived.Shelf.Strings.Cut
import Derived.Shelf.Strings.Prefix
import Derived.StillTactics
import Derived.StillTailTactics
import Derived.Stop.Asserts
import Derived.TacticsInMore
import Derived.Test.YtjdnpkicdmapnaaGreatDoorProg
import Derived.WalkKit
import Derived.WalkLawsBesides
import Derived.WalkMore
import Derived.WalkSpells
set_option linter.unusedVariables false
set_option linter.unusedSimpArgs false
set_option exponentiation.threshold 10000
namespace Go.Proofs.YtjdnpkicdmapnaaGreatDoor
open Go.RowKit GW NL
/-- a number with a fault -/
def RPf (x : Int × Nat × (Bool × Nat × Nat)) (w : World) (e : Ending) (w' : World) : Prop :=
  ∃ A c F B k H, e = .returned (.tuple #[.agg #[.bool x.2.2.1, .slice A (limbs x.2.2.2.1).length c, .slice B (limbs x.2.2.2.2).length k], .agg #[.int .i64 x.1, .int .i64 ((x.2.1 : Nat) : Int)]]) ∧ F.Sl A c (limbs x.2.2.2.1) ∧ H.Sl B k (limbs x.2.2.2.2) ∧ New w w' F ∧ New w w' H
/-- what the parts are in each case -/
def ParOk (x : Int × Nat × (Bool × Nat × Nat)) : Prop := (x.1 ≠ 0 ∧ x.2.2 = (false, 0, 0)) ∨ (x.1 = 0 ∧ x.2.1 = 0 ∧ x.2.2.2.1 < 2 ^ 8192 ∧ x.2.2.2.2 < 2 ^ 8192)
theorem resP_ok (neg : Bool) (fr : Nat) (r : List Nat) : ParOk (resP neg fr r) := by
  have one : (1 : Nat) < 2 ^ 8192 := by decide
  unfold resP
  split
  · exact .inl ⟨show (11 : Int) ≠ 0 by decide, rfl⟩
  · split
    · split
      · exact .inl ⟨show (11 : Int) ≠ 0 by decide, rfl⟩
      · split
        · exact .inl ⟨show (11 : Int) ≠ 0 by decide, rfl⟩
        · split
          · exact .inl ⟨by assumption, rfl⟩
          · split
            · exact .inl ⟨by assumption, rfl⟩
            · split
              · exact .inl ⟨show (6 : Int) ≠ 0 by decide, rfl⟩
              · rename_i hz
                have := Bd.frac neg hz (natP_val (r.take (dig r))) (natP_val (r.drop (dig r + 1)))
                exact .inr ⟨rfl, rfl, this.1, this.2⟩
    · split
      · exact .inl ⟨by assumption, rfl⟩
      · exact .inr ⟨rfl, rfl, natP_val r, one⟩
theorem parP_ok (b : List Nat) : ParOk (parP b) := by
  unfold parP
  split
  · exact .inl ⟨by decide, rfl⟩
  · split
    · exact resP_ok _ _ _
    · exact resP_ok _ _ _
theorem rpf_err {w0 : World} {M : List Blk} {I : List Frag} (g : G w0 [] M I) (x : Int) (p : Nat) : RPf (x, p, (false, 0, 0)) w0 (.returned (.tuple #[.agg #[.bool false, .slice none 0 0, .slice none 0 0], .agg #[.int .i64 x, .int .i64 ((p : Nat) : Int)]])) g.w :=
  ⟨none, 0, _, none, 0, _, by simp only [limbs_zero]; rfl, by simp only [limbs_zero]; exact Frag.Sl.nil _ _, by simp only [limbs_zero]; exact Frag.Sl.nil _ _, g.none, g.none⟩
set_option maxRecDepth 20000 in
set_option maxHeartbeats 4000000 in
theorem qParse_any (s : ByteArray) (m : Int) (w : World) (hm : w.cell? ⟨3, 0, none⟩ = some (.int .i64 m)) (hg : w.cell? ⟨0, 0, none⟩ = some (.iface 145 (.agg #[.pointer (some ⟨4, 79, none⟩)]))) (hT : Tab w) :
    Calls Tryz.prog 27 #[.string s] w (RPf (parP (bl s)) w) := by
  refine calls_b fun g => ?_
  by_cases hl : 5000 < s.size
  · have e : parP (bl s) = (4, 5000, (false, 0, 0)) := by unfold parP; rw [bl_len, if_pos hl]
    rw [e]
    have hli : (5000 : Int) < (s.size : Int) := by omega
    clear e hm hg hT hl
    go_enter Tryz.func27, Tryz.ntmps27
    go_wp2_with (with_reducible refine G.any_mark _ ?_; (try generalize Array.size (World.heap (G.w _)) = bk); (try dsimp only [List.set_cons_zero, List.set_cons_succ]); (try clear g); intro g)
    refine bodyPost_ret (v := .tuple #[.agg #[.bool false, .slice none 0 0, .slice none 0 0], .agg #[.int .i64 4, .int .i64 5000]]) (by simp [results, Tryz.results27, go_sem]) rfl ?_
    exact rpf_err _ 4 5000
  · have hli : ¬ (5000 : Int) < (s.size : Int) := by omega
    have CR := Lib.hid (fun w hm hT => read_any s (by omega) m w hm hT)
    have hpo := parP_ok (bl s)
    obtain ⟨⟨er, pl, sg, n, d⟩, hx⟩ : ∃ x, parP (bl s) = x := ⟨_, rfl⟩
    rw [hx] at CR hpo ⊢
    unfold RRd at CR
    unfold ParOk at hpo
    dsimp only at CR hpo
    have HM := Lib.hid hm
    have HG := Lib.hid hg
    have HT := Lib.hid hT
    clear hx hm hg hT hl
    rcases hpo with ⟨hne, h2⟩ | ⟨rfl, rfl, hn, hd⟩
    · simp only [Prod.mk.injEq] at h2
      obtain ⟨rfl, rfl, rfl⟩ := h2
      obtain ⟨q, hq⟩ : ∃ q : Int, ((pl : Nat) : Int) = q := ⟨_, rfl⟩
      rw [hq] at CR
      go_enter Tryz.func27, Tryz.ntmps27
      go_wp2_with (with_reducible refine G.any_mark _ ?_; (try generalize Array.size (World.heap (G.w _)) = bk); (try dsimp only [List.set_cons_zero, List.set_cons_succ]); (try clear g); intro g)
      refine (CR.out _ (G.oldcell g HM.out) (G.tab g HT.out)).mono ?_
      rintro e w1 (⟨_, ⟨sx, A, nx, c, B, mx, k, rfl⟩, hb⟩ | ⟨h0, _⟩)
      rotate_left 1
      · exact absurd h0 hne
      obtain ⟨g1, rfl⟩ := G.call_ex _ hb
      clear hb
      (try clear g)
      revert g1
      intro g
      go_wp2_with (with_reducible refine G.any_mark _ ?_; (try generalize Array.size (World.heap (G.w _)) = bk); (try dsimp only [List.set_cons_zero, List.set_cons_succ]); (try clear g); intro g)
      (try (refine cmark _ ?_; (try dsimp only [List.set_cons_zero, List.set_cons_succ]); (try clear g); intro g))
      refine (as_hit _ er q 0 0 _ (G.blk0 g) (G.oldcell g HG.out)).mono ?_
      rintro e w1 ⟨rfl, hch, hcb⟩
      obtain ⟨g1, rfl⟩ := G.mut0 g (cs' := [.int .i64 er, .int .i64 q]) hch hcb
      clear hch hcb
      (try clear g)
      revert g1
      intro g
      go_wp2_with (with_reducible refine G.any_mark _ ?_; (try generalize Array.size (World.heap (G.w _)) = bk); (try dsimp only [List.set_cons_zero, List.set_cons_succ]); (try clear g); intro g)
      go_region
      all_goals ((try simp only [G.drew_eq, G.drewN_eq]); (refine G.any_mark _ ?_; (try clear g); intro g))
      all_goals go_wp2_with (with_reducible refine G.any_mark _ ?_; (try generalize Array.size (World.heap (G.w _)) = bk); (try dsimp only [List.set_cons_zero, List.set_cons_succ]); (try clear g); intro g)
      all_goals refine bodyPost_ret (v := .tuple #[.agg #[.bool false, .slice none 0 0, .slice none 0 0], .agg #[.int .i64 er, .int .i64 q]]) (by simp [results, Tryz.results27, go_sem]) rfl ?_
      all_goals (subst hq; exact rpf_err _ er pl)
    · have CS := Lib.hid (fun A B c k w h1 h2 => result_any sg A B c k n d w h1 h2)
      unfold RPE outP at CS
      rw [if_pos ⟨hn, hd⟩] at CS
      dsimp only at CS
      unfold RPf
      dsimp only
      clear hn hd
      generalize (limbs n).length = ln at *
      generalize (limbs d).length = ld at *
      go_enter Tryz.func27, Tryz.ntmps27
      go_wp2_with (with_reducible refine G.any_mark _ ?_; (try generalize Array.size (World.heap (G.w _)) = bk); (try dsimp only [List.set_cons_zero, List.set_cons_succ]); (try clear g); intro g)
      refine (CR.out _ (G.oldcell g HM.out) (G.tab g HT.out)).mono ?_
      rintro e w1 (⟨h0, _⟩ | ⟨_, A, c, F, B, k, H, rfl, hs, ht, hn, hm⟩)
      · exact absurd rfl h0
      obtain ⟨g1, rfl⟩ := G.new2_ex _ hn hm
      clear hn hm
      (try clear g)
      revert g1
      intro g
      go_wp2_with (with_reducible refine G.any_mark _ ?_; (try generalize Array.size (World.heap (G.w _)) = bk); (try dsimp only [List.set_cons_zero, List.set_cons_succ]); (try clear g); intro g)
      (try (refine cmark _ ?_; (try dsimp only [List.set_cons_zero, List.set_cons_succ]); (try clear g); intro g))
      refine (as_nil _ _).mono ?_
      rintro e w1 ⟨rfl, rfl⟩
      go_wp2_with (with_reducible refine G.any_mark _ ?_; (try generalize Array.size (World.heap (G.w _)) = bk); (try dsimp only [List.set_cons_zero, List.set_cons_succ]); (try clear g); intro g)
      (try (refine cmark _ ?_; (try dsimp only [List.set_cons_zero, List.set_cons_succ]); (try clear g); intro g))
      refine (CS.out _ _ _ _ _ (G.sl g (by simp) hs) (G.sl g (by simp) ht)).mono ?_
      rintro e w1 ⟨Aq, cq, Fq, Bq, dq, Hq, rfl, hsq, htq, hn, hm⟩
      have hnnq := fun k o hk => Nat.le_trans g.chg.size (hn.new k o hk)
      have hmmq := fun k o hk => Nat.le_trans g.chg.size (hm.new k o hk)
      obtain ⟨g1, rfl⟩ := G.new2_ex _ hn hm
      clear hn hm
      (try clear g)
      revert g1
      intro g
      go_wp2_with (with_reducible refine G.any_mark _ ?_; (try generalize Array.size (World.heap (G.w _)) = bk); (try dsimp only [List.set_cons_zero, List.set_cons_succ]); (try clear g); intro g)
      refine bodyPost_ret (v := .tuple #[.agg #[.bool sg, .slice Aq ln cq, .slice Bq ld dq], .agg #[.int .i64 0, .int .i64 0]]) (by simp [results, Tryz.results27, go_sem]) rfl ?_
      exact ⟨Aq, cq, Fq, Bq, dq, Hq, rfl, hsq, htq, G.pass _ (by simp) hnnq, G.pass _ (by simp) hmmq⟩
end Go.Proofs.YtjdnpkicdmapnaaGreatDoor
