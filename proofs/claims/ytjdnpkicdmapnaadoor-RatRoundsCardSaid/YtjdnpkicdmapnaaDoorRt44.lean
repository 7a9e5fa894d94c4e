/- Plain facts and contracts of functions of the program, out of walks. Their conditions stand ahead of each. -/
import Derived.Test.YtjdnpkicdmapnaaDoorRt43
import Derived.Below
import Derived.BigQuiet
import Derived.Deep.Draws
import Derived.Deep.LoopGhost
import Derived.Deep.QuietTactic
import Derived.Deep.RegionHeld3
import Derived.Deep.RegionLaw
import Derived.Defers
import Derived.Laws.BytesString
import Derived.Laws.Cells
import Derived.Laws.CopyOwn
import Derived.Laws.CopyRow
import Derived.Laws.NewBlocks
import Derived.Laws.OwnMore
import Derived.Laws.Pointers
import Derived.Laws.Rows
import Derived.Lib.BitFns
import Derived.Lib.Hide
import Derived.Lib.ItoaNum
import Derived.Lib.TrailingZeros
import Derived.LoopIn
import Derived.LoopNIn
import Derived.Maps.AppendAt
import Derived.OrdersIn
import Derived.OwnWalk
import Derived.OwnWalkIn
import Derived.RangeFuncBound
import Derived.RangeFuncBox
import Derived.RangeFuncCalls
import Derived.RangeFuncLeaves
import Derived.RangeFuncNested
import Derived.RowKit3
import Derived.Shelf.Abstract
import Derived.Shelf.RegionOpen
import Derived.Shelf.Spec.TrailingZeros
import Derived.StillTactics
import Derived.StillTailTactics
import Derived.TacticsInMore
import Derived.Test.YtjdnpkicdmapnaaDoorProg
import Derived.WalkKit
import Derived.WalkLawsBesides
import Derived.WalkMore
import Derived.WalkSpells
set_option linter.unusedVariables false
set_option linter.unusedSimpArgs false
set_option exponentiation.threshold 10000
namespace Go.Proofs.YtjdnpkicdmapnaaDoor
open Go.RowKit GW NL
/-- What is returned is a fraction by its parts, in new memory. -/
def RNq (s : Bool) (n d : Nat) (w : World) (e : Ending) (w' : World) : Prop := ∃ A c F B k H, e = .returned (.agg #[.bool s, .slice A (limbs n).length c, .slice B (limbs d).length k]) ∧ F.Sl A c (limbs n) ∧ H.Sl B k (limbs d) ∧ New w w' F ∧ New w w' H
theorem whole_any (s : Bool) (A : Option Addr) (c n : Nat) (w : World) :
    Calls Tryd.prog 79 #[.bool s, .slice A n c] w fun e w' => ∃ B k H, e = .returned (.agg #[.bool s, .slice A n c, .slice B (limbs 1).length k]) ∧ H.Sl B k (limbs 1) ∧ New w w' H := by
  refine calls_b fun g => ?_
  have h1 : limbs 1 = [1] := limbs_one (by decide) (by decide)
  rw [h1]
  have HK : Hid (Ok [1]) := Lib.hid (Ok.cons (by decide) Ok.nil)
  go_enter Tryd.func79, Tryd.ntmps79
  go_wp2_with (with_reducible refine G.any_mark _ ?_; (try generalize Array.size (World.heap (G.w _)) = bk); (try dsimp only [List.set_cons_zero, List.set_cons_succ]); (try clear g); intro g)
  refine bodyPost_ret (v := .agg #[.bool s, .slice A n c, .slice (some ⟨bk, 0, none⟩) 1 1]) (by simp [results, Tryd.results79, go_sem]) rfl ?_
  exact ⟨some ⟨bk, 0, none⟩, 1, blkF bk (.cells (u32s [1]).toArray 39 (0, 0)), rfl, sl_blk (by simp) (by decide) HK.out, G.give _ (List.mem_cons_self ..)⟩
/-- the size of the greatest integer that is at most a fraction -/
def flq (s : Bool) (n d : Nat) : Nat := if s = true ∧ n % d ≠ 0 then n / d + 1 else n / d
set_option maxRecDepth 20000 in
set_option maxHeartbeats 2000000 in
theorem floor_any (s : Bool) (A B : Option Addr) (c k n d : Nat) (w : World) (h1 : SlW w A c (limbs n)) (h2 : SlW w B k (limbs d)) (hl1 : (limbs n).length ≤ 50000000) (hl2 : (limbs d).length ≤ 50000000) (hd : d ≠ 0) :
    Calls Tryd.prog 49 #[.agg #[.bool s, .slice A (limbs n).length c, .slice B (limbs d).length k]] w (RNq (s && decide (flq s n d ≠ 0)) (flq s n d) 1 w) := by
  refine calls_b fun g => ?_
  have C1 := Lib.hid (fun w h1 h2 => lover_any A B c k n d w h1 h2 (by omega) (by omega) hd)
  have hql : (limbs (n / d)).length ≤ 50000000 := Nat.le_trans (limbs_len_mono (Nat.div_le_self _ _)) hl1
  have l1 : limbs 1 = [1] := limbs_one (by decide) (by decide)
  have HK : Hid (Ok [1]) := Lib.hid (Ok.cons (by decide) Ok.nil)
  have C2 := Lib.hid (fun A b c w h1 h2 => ladd A (some ⟨b, 0, none⟩) c 1 (n / d) 1 w h1 h2 (by omega) (by rw [l1]; decide))
  rw [l1] at C2
  simp only [List.length_cons, List.length_nil, Nat.zero_add] at C2
  have hq1 : n / d + 1 ≠ 0 := Nat.succ_ne_zero _
  have hqp : 0 < (limbs (n / d + 1)).length := (limbs_ne hq1).2
  have hrz : (n % d = 0 ∧ (limbs (n % d)).length = 0) ∨ (n % d ≠ 0 ∧ 0 < (limbs (n % d)).length) := by
    by_cases h : n % d = 0
    · left; rw [h, limbs_zero]; exact ⟨rfl, rfl⟩
    · right; exact ⟨h, (limbs_ne h).2⟩
  have hqz : (n / d = 0 ∧ (limbs (n / d)).length = 0) ∨ (n / d ≠ 0 ∧ 0 < (limbs (n / d)).length) := by
    by_cases h : n / d = 0
    · left; rw [h, limbs_zero]; exact ⟨rfl, rfl⟩
    · right; exact ⟨h, (limbs_ne h).2⟩
  unfold flq
  generalize n % d = R at *
  generalize n / d = Q at *
  have H1 := Lib.hid h1
  have H2 := Lib.hid h2
  have L1 := Lib.hid l1
  clear h1 h2 l1 hd hq1 hql
  generalize (limbs n).length = ln at *
  generalize (limbs d).length = ld at *
  generalize hlQ : (limbs Q).length = lQ at *
  have HlQ := Lib.hid hlQ
  generalize hlQ1 : (limbs (Q + 1)).length = lQ1 at *
  have HlQ1 := Lib.hid hlQ1
  generalize hlR : (limbs R).length = lR at *
  have HlR := Lib.hid hlR
  clear hlQ hlQ1 hlR
  cases s
  · rw [if_neg (fun h => by cases h.1), Bool.false_and]
    go_enter Tryd.func49, Tryd.ntmps49
    go_wp2_with (with_reducible refine G.any_mark _ ?_; (try generalize Array.size (World.heap (G.w _)) = bk); (try dsimp only [List.set_cons_zero, List.set_cons_succ]); (try clear g); intro g)
    refine (C1.out _ (G.sl g (by simp) H1.out) (G.sl g (by simp) H2.out)).mono ?_
    rintro e w1 ⟨Aq, cq, Fq, Bq, dq, Hq, rfl, hsq, htq, hn, hm⟩
    have hnnq := fun k o hk => Nat.le_trans g.chg.size (hn.new k o hk)
    have hmmq := fun k o hk => Nat.le_trans g.chg.size (hm.new k o hk)
    obtain ⟨g1, rfl⟩ := G.new2_ex _ hn hm
    clear hn hm
    (try clear g)
    revert g1
    intro g
    rw [HlQ.out, HlR.out]
    go_wp2_with (with_reducible refine G.any_mark _ ?_; (try generalize Array.size (World.heap (G.w _)) = bk); (try dsimp only [List.set_cons_zero, List.set_cons_succ]); (try clear g); intro g)
    (try (refine cmark _ ?_; (try dsimp only [List.set_cons_zero, List.set_cons_succ]); (try clear g); intro g))
    refine (whole_any _ _ _ _ _).mono ?_
    rintro e w1 ⟨B1, k1, P1, rfl, hs1, hn1⟩
    have ho1 := fun k o hk => Nat.le_trans (G.chg _).size (hn1.new k o hk)
    obtain ⟨g1, rfl⟩ := G.new_ex _ hn1
    clear hn1
    (try clear g)
    revert g1
    intro g
    generalize hl1e : (limbs 1).length = le at *
    have HLE := Lib.hid hl1e
    clear hl1e
    go_wp2_with (with_reducible refine G.any_mark _ ?_; (try generalize Array.size (World.heap (G.w _)) = bk); (try dsimp only [List.set_cons_zero, List.set_cons_succ]); (try clear g); intro g)
    refine bodyPost_ret (v := .agg #[.bool false, .slice Aq lQ cq, .slice B1 le k1]) (by simp [results, Tryd.results49, go_sem]) rfl ?_
    exact ⟨Aq, cq, Fq, B1, k1, P1, by rw [HlQ.out, HLE.out], hsq, hs1, G.pass _ (by simp) hnnq, G.pass _ (by simp) ho1⟩
  · rcases hrz with ⟨r1, r2⟩ | ⟨r1, r2⟩
    · rw [if_neg (fun h => h.2 r1), Bool.true_and]
      clear r1
      subst r2
      rcases hqz with ⟨q1, q2⟩ | ⟨q1, q2⟩
      · rw [decide_eq_false (fun h => h q1)]
        clear q1
        subst q2
        go_enter Tryd.func49, Tryd.ntmps49
        go_wp2_with (with_reducible refine G.any_mark _ ?_; (try generalize Array.size (World.heap (G.w _)) = bk); (try dsimp only [List.set_cons_zero, List.set_cons_succ]); (try clear g); intro g)
        refine (C1.out _ (G.sl g (by simp) H1.out) (G.sl g (by simp) H2.out)).mono ?_
        rintro e w1 ⟨Aq, cq, Fq, Bq, dq, Hq, rfl, hsq, htq, hn, hm⟩
        have hnnq := fun k o hk => Nat.le_trans g.chg.size (hn.new k o hk)
        have hmmq := fun k o hk => Nat.le_trans g.chg.size (hm.new k o hk)
        obtain ⟨g1, rfl⟩ := G.new2_ex _ hn hm
        clear hn hm
        (try clear g)
        revert g1
        intro g
        rw [HlQ.out, HlR.out]
        go_wp2_with (with_reducible refine G.any_mark _ ?_; (try generalize Array.size (World.heap (G.w _)) = bk); (try dsimp only [List.set_cons_zero, List.set_cons_succ]); (try clear g); intro g)
        (try (refine cmark _ ?_; (try dsimp only [List.set_cons_zero, List.set_cons_succ]); (try clear g); intro g))
        refine (whole_any _ _ _ _ _).mono ?_
        rintro e w1 ⟨B1, k1, P1, rfl, hs1, hn1⟩
        have ho1 := fun k o hk => Nat.le_trans (G.chg _).size (hn1.new k o hk)
        obtain ⟨g1, rfl⟩ := G.new_ex _ hn1
        clear hn1
        (try clear g)
        revert g1
        intro g
        generalize hl1e : (limbs 1).length = le at *
        have HLE := Lib.hid hl1e
        clear hl1e
        go_wp2_with (with_reducible refine G.any_mark _ ?_; (try generalize Array.size (World.heap (G.w _)) = bk); (try dsimp only [List.set_cons_zero, List.set_cons_succ]); (try clear g); intro g)
        refine bodyPost_ret (v := .agg #[.bool false, .slice Aq 0 cq, .slice B1 le k1]) (by simp [results, Tryd.results49, go_sem]) rfl ?_
        exact ⟨Aq, cq, Fq, B1, k1, P1, by rw [HlQ.out, HLE.out], hsq, hs1, G.pass _ (by simp) hnnq, G.pass _ (by simp) ho1⟩
      · rw [decide_eq_true q1]
        have q3 : (0 : Int) < (lQ : Int) := by omega
        clear q1
        go_enter Tryd.func49, Tryd.ntmps49
        go_wp2_with (with_reducible refine G.any_mark _ ?_; (try generalize Array.size (World.heap (G.w _)) = bk); (try dsimp only [List.set_cons_zero, List.set_cons_succ]); (try clear g); intro g)
        refine (C1.out _ (G.sl g (by simp) H1.out) (G.sl g (by simp) H2.out)).mono ?_
        rintro e w1 ⟨Aq, cq, Fq, Bq, dq, Hq, rfl, hsq, htq, hn, hm⟩
        have hnnq := fun k o hk => Nat.le_trans g.chg.size (hn.new k o hk)
        have hmmq := fun k o hk => Nat.le_trans g.chg.size (hm.new k o hk)
        obtain ⟨g1, rfl⟩ := G.new2_ex _ hn hm
        clear hn hm
        (try clear g)
        revert g1
        intro g
        rw [HlQ.out, HlR.out]
        go_wp2_with (with_reducible refine G.any_mark _ ?_; (try generalize Array.size (World.heap (G.w _)) = bk); (try dsimp only [List.set_cons_zero, List.set_cons_succ]); (try clear g); intro g)
        (try (refine cmark _ ?_; (try dsimp only [List.set_cons_zero, List.set_cons_succ]); (try clear g); intro g))
        refine (whole_any _ _ _ _ _).mono ?_
        rintro e w1 ⟨B1, k1, P1, rfl, hs1, hn1⟩
        have ho1 := fun k o hk => Nat.le_trans (G.chg _).size (hn1.new k o hk)
        obtain ⟨g1, rfl⟩ := G.new_ex _ hn1
        clear hn1
        (try clear g)
        revert g1
        intro g
        generalize hl1e : (limbs 1).length = le at *
        have HLE := Lib.hid hl1e
        clear hl1e
        go_wp2_with (with_reducible refine G.any_mark _ ?_; (try generalize Array.size (World.heap (G.w _)) = bk); (try dsimp only [List.set_cons_zero, List.set_cons_succ]); (try clear g); intro g)
        refine bodyPost_ret (v := .agg #[.bool true, .slice Aq lQ cq, .slice B1 le k1]) (by simp [results, Tryd.results49, go_sem]) rfl ?_
        exact ⟨Aq, cq, Fq, B1, k1, P1, by rw [HlQ.out, HLE.out], hsq, hs1, G.pass _ (by simp) hnnq, G.pass _ (by simp) ho1⟩
    · rw [if_pos ⟨rfl, r1⟩, Bool.true_and, decide_eq_true (Nat.succ_ne_zero Q)]
      have r3 : (0 : Int) < (lR : Int) := by omega
      have q3 : (0 : Int) < (lQ1 : Int) := by omega
      clear r1 hqz
      go_enter Tryd.func49, Tryd.ntmps49
      go_wp2_with (with_reducible refine G.any_mark _ ?_; (try generalize Array.size (World.heap (G.w _)) = bk); (try dsimp only [List.set_cons_zero, List.set_cons_succ]); (try clear g); intro g)
      refine (C1.out _ (G.sl g (by simp) H1.out) (G.sl g (by simp) H2.out)).mono ?_
      rintro e w1 ⟨Aq, cq, Fq, Bq, dq, Hq, rfl, hsq, htq, hn, hm⟩
      have hnnq := fun k o hk => Nat.le_trans g.chg.size (hn.new k o hk)
      have hmmq := fun k o hk => Nat.le_trans g.chg.size (hm.new k o hk)
      obtain ⟨g1, rfl⟩ := G.new2_ex _ hn hm
      clear hn hm
      (try clear g)
      revert g1
      intro g
      rw [HlQ.out, HlR.out]
      go_wp2_with (with_reducible refine G.any_mark _ ?_; (try generalize Array.size (World.heap (G.w _)) = bk); (try dsimp only [List.set_cons_zero, List.set_cons_succ]); (try clear g); intro g)
      have hsl1 : SlW g.w (some ⟨bk, 0, none⟩) 1 [1] := (sl_blk (T := 39) (fr := (0, 0)) (l := [1]) (by simp) (by decide) HK.out).at (blkF_sub g.blk0)
      refine (C2.out _ _ _ _ (G.sl g (by simp) hsq) hsl1).mono ?_
      rintro e w1 ⟨Ap, cp, Fp, rfl, hsp, hn⟩
      have hnnp := fun k o hk => Nat.le_trans g.chg.size (hn.new k o hk)
      obtain ⟨g1, rfl⟩ := G.new_ex _ hn
      clear hn
      (try clear g)
      revert g1
      intro g
      rw [HlQ1.out]
      go_wp2_with (with_reducible refine G.any_mark _ ?_; (try generalize Array.size (World.heap (G.w _)) = bk); (try dsimp only [List.set_cons_zero, List.set_cons_succ]); (try clear g); intro g)
      (try (refine cmark _ ?_; (try dsimp only [List.set_cons_zero, List.set_cons_succ]); (try clear g); intro g))
      refine (whole_any _ _ _ _ _).mono ?_
      rintro e w1 ⟨B1, k1, P1, rfl, hs1, hn1⟩
      have ho1 := fun k o hk => Nat.le_trans (G.chg _).size (hn1.new k o hk)
      obtain ⟨g1, rfl⟩ := G.new_ex _ hn1
      clear hn1
      (try clear g)
      revert g1
      intro g
      generalize hl1e : (limbs 1).length = le at *
      have HLE := Lib.hid hl1e
      clear hl1e
      go_wp2_with (with_reducible refine G.any_mark _ ?_; (try generalize Array.size (World.heap (G.w _)) = bk); (try dsimp only [List.set_cons_zero, List.set_cons_succ]); (try clear g); intro g)
      refine bodyPost_ret (v := .agg #[.bool true, .slice Ap lQ1 cp, .slice B1 le k1]) (by simp [results, Tryd.results49, go_sem]) rfl ?_
      exact ⟨Ap, cp, Fp, B1, k1, P1, by rw [HlQ1.out, HLE.out], hsp, hs1, G.pass _ (by simp) hnnp, G.pass _ (by simp) ho1⟩
theorem rn_frac_le (s : Bool) {n d : Nat} (hd : d ≠ 0) : rn (frac s n d) ≤ n := by rw [frac_rn s hd]; exact Nat.div_le_self _ _
theorem den_frac_le (s : Bool) {n d : Nat} (hd : d ≠ 0) : (frac s n d).den ≤ d := by rw [frac_den s hd]; exact Nat.div_le_self _ _
/-- a half more, for a fraction that is not negative -/
def hf (n d : Nat) : Rat := frac false n d + frac false 1 2
theorem hf_eq {n d : Nat} (hd : d ≠ 0) : hf n d = frac false (n * 2 + 1 * d) (d * 2) := frac_add_same false hd (by decide)
theorem hf_neg {n d : Nat} (hd : d ≠ 0) : rneg (hf n d) = false := by
  rw [hf_eq hd, frac_rneg false (Nat.mul_ne_zero hd (by decide))]; rfl
/-- the nearest integer to a fraction that is not negative -/
def rdq (n d : Nat) : Nat := rn (hf n d) / (hf n d).den
set_option maxRecDepth 20000 in
set_option maxHeartbeats 2000000 in
theorem round_pos (A B : Option Addr) (c k n d : Nat) (w : World) (h1 : SlW w A c (limbs n)) (h2 : SlW w B k (limbs d)) (hT : Tab w) (hl1 : (limbs n).length ≤ 10000000) (hl2 : (limbs d).length ≤ 10000000) (hd : d ≠ 0) :
    Calls Tryd.prog 51 #[.agg #[.bool false, .slice A (limbs n).length c, .slice B (limbs d).length k]] w (RNq false (rdq n d) 1 w) := by
  refine calls_b fun g => ?_
  have l1 : limbs 1 = [1] := limbs_one (by decide) (by decide)
  have l2 : limbs 2 = [2] := limbs_one (by decide) (by decide)
  have HK1 : Hid (Ok [1]) := Lib.hid (Ok.cons (by decide) Ok.nil)
  have HK2 : Hid (Ok [2]) := Lib.hid (Ok.cons (by decide) Ok.nil)
  have C1 := Lib.hid (fun w b1 b2 ha hb hc hd' ht => (by
    have := fplus_any false false A B (some ⟨b1, 0, none⟩) (some ⟨b2, 0, none⟩) c k 1 1 n d 1 2 w ha hb (by rw [l1]; exact hc) (by rw [l2]; exact hd') ht hl1 hl2 (by rw [l1]; decide) (by rw [l2]; decide) hd (by decide)
    rw [l1, l2] at this
    exact this : Calls Tryd.prog 35 #[.agg #[.bool false, .slice A (limbs n).length c, .slice B (limbs d).length k], .agg #[.bool false, .slice (some ⟨b1, 0, none⟩) 1 1, .slice (some ⟨b2, 0, none⟩) 1 1]] w (RNf (hf n d) w)))
  have hb1 : (limbs (rn (hf n d))).length ≤ 50000000 := by
    rw [hf_eq hd]
    refine Nat.le_trans (limbs_len_mono (rn_frac_le false (Nat.mul_ne_zero hd (by decide)))) ?_
    have a1 := limbs_add_len (n * 2) (1 * d)
    have a2 := limbs_mul_len n 2
    rw [l2] at a2
    rw [Nat.one_mul] at a1 ⊢
    simp only [List.length_cons, List.length_nil] at a2
    omega
  have hb2 : (limbs (hf n d).den).length ≤ 50000000 := by
    rw [hf_eq hd]
    refine Nat.le_trans (limbs_len_mono (den_frac_le false (Nat.mul_ne_zero hd (by decide)))) ?_
    have a2 := limbs_mul_len d 2
    rw [l2] at a2
    simp only [List.length_cons, List.length_nil] at a2
    omega
  have CF := Lib.hid (fun A B c k w h1 h2 => floor_any false A B c k (rn (hf n d)) (hf n d).den w h1 h2 hb1 hb2 (hf n d).den_nz)
  have hfl : flq false (rn (hf n d)) (hf n d).den = rdq n d := by unfold flq rdq; rw [if_neg (fun h => by cases h.1)]
  rw [hfl] at CF
  simp only [Bool.false_and] at CF
  have HNG := Lib.hid (hf_neg (n := n) hd)
  have HT := Lib.hid hT
  have H1 := Lib.hid h1
  have H2 := Lib.hid h2
  clear h1 h2 l1 l2 hd hT hb1 hb2 hfl
  generalize rdq n d = Q at *
  generalize hf n d = y at *
  unfold RNf at C1
  rw [HNG.out] at C1
  generalize (limbs n).length = ln at *
  generalize (limbs d).length = ld at *
  go_enter Tryd.func51, Tryd.ntmps51
  go_wp2_with (with_reducible refine G.any_mark _ ?_; (try generalize Array.size (World.heap (G.w _)) = bk); (try dsimp only [List.set_cons_zero, List.set_cons_succ]); (try clear g); intro g)
  obtain ⟨b2, rfl⟩ : ∃ b2, b2 = bk := ⟨_, rfl⟩
  obtain ⟨b1, rfl⟩ : ∃ b1, b1 = bk := ⟨_, rfl⟩
  have hs1 : SlW g.w (some ⟨b1, 0, none⟩) 1 [1] := (sl_blk (T := 39) (fr := (0, 0)) (l := [1]) (by simp) (by decide) HK1.out).at (blkF_sub g.blk1)
  have hs2 : SlW g.w (some ⟨b2, 0, none⟩) 1 [2] := (sl_blk (T := 39) (fr := (0, 0)) (l := [2]) (by simp) (by decide) HK2.out).at (blkF_sub g.blk0)
  refine (C1.out _ _ _ (G.sl g (by simp) H1.out) (G.sl g (by simp) H2.out) hs1 hs2 (G.tab g HT.out)).mono ?_
  rintro e w1 ⟨Y1, y1, Q1, Y2, y2, Q2, rfl, hy1, hy2, hn1, hn2⟩
  obtain ⟨g1, rfl⟩ := G.new2_ex _ hn1 hn2
  clear hn1 hn2 hs1 hs2
  (try clear g)
  revert g1
  intro g
  go_wp2_with (with_reducible refine G.any_mark _ ?_; (try generalize Array.size (World.heap (G.w _)) = bk); (try dsimp only [List.set_cons_zero, List.set_cons_succ]); (try clear g); intro g)
  refine (CF.out _ _ _ _ _ (G.sl g (by simp) hy1) (G.sl g (by simp) hy2)).mono ?_
  rintro e w1 ⟨Z1, z1, R1, Z2, z2, R2, rfl, hz1, hz2, hn1, hn2⟩
  have ho1 := fun k o hk => Nat.le_trans (G.chg _).size (hn1.new k o hk)
  have ho2 := fun k o hk => Nat.le_trans (G.chg _).size (hn2.new k o hk)
  obtain ⟨g1, rfl⟩ := G.new2_ex _ hn1 hn2
  clear hn1 hn2
  (try clear g)
  revert g1
  intro g
  generalize hl1e : (limbs 1).length = le at *
  have HLE := Lib.hid hl1e
  clear hl1e
  go_wp2_with (with_reducible refine G.any_mark _ ?_; (try generalize Array.size (World.heap (G.w _)) = bk); (try dsimp only [List.set_cons_zero, List.set_cons_succ]); (try clear g); intro g)
  refine bodyPost_ret (v := .agg #[.bool false, .slice Z1 (limbs Q).length z1, .slice Z2 le z2]) (by simp [results, Tryd.results51, go_sem]) rfl ?_
  exact ⟨Z1, z1, R1, Z2, z2, R2, by rw [HLE.out], hz1, hz2, G.pass _ (by simp) ho1, G.pass _ (by simp) ho2⟩
set_option maxRecDepth 20000 in
set_option maxHeartbeats 2000000 in
theorem round_neg (A B : Option Addr) (c k n d : Nat) (w : World) (h1 : SlW w A c (limbs n)) (h2 : SlW w B k (limbs d)) (hT : Tab w) (hl1 : (limbs n).length ≤ 10000000) (hl2 : (limbs d).length ≤ 10000000) (hd : d ≠ 0) :
    Calls Tryd.prog 51 #[.agg #[.bool true, .slice A (limbs n).length c, .slice B (limbs d).length k]] w (RNq (decide (rdq n d ≠ 0)) (rdq n d) 1 w) := by
  refine calls_b fun g => ?_
  have C0 := Lib.hid (fun w => minus_any true A B c k (limbs n).length (limbs d).length w)
  simp only [Bool.not_true, Bool.false_and] at C0
  have C1 := Lib.hid (fun w h1 h2 ht => round_pos A B c k n d w h1 h2 ht hl1 hl2 hd)
  have HT := Lib.hid hT
  have H1 := Lib.hid h1
  have H2 := Lib.hid h2
  clear h1 h2 hd hT
  generalize rdq n d = Q at *
  generalize (limbs n).length = ln at *
  generalize (limbs d).length = ld at *
  have C2 := Lib.hid (fun A B c k w => minus_any false A B c k (limbs Q).length (limbs 1).length w)
  have hQ : (!false && decide (0 < (limbs Q).length)) = decide (Q ≠ 0) := by
    rw [Bool.not_false, Bool.true_and]
    apply decide_eq_decide.2
    constructor
    · intro h h0; rw [h0, limbs_zero] at h; exact absurd h (by simp)
    · intro h; exact (limbs_ne h).2
  rw [hQ] at C2
  clear hQ
  generalize decide (Q ≠ 0) = t at *
  go_enter Tryd.func51, Tryd.ntmps51
  go_wp2_with (with_reducible refine G.any_mark _ ?_; (try generalize Array.size (World.heap (G.w _)) = bk); (try dsimp only [List.set_cons_zero, List.set_cons_succ]); (try clear g); intro g)
  refine (C0.out _).mono ?_
  rintro e w1 ⟨rfl, hb⟩
  obtain ⟨g1, rfl⟩ := G.call_ex _ hb
  clear hb
  (try clear g)
  revert g1
  intro g
  go_wp2_with (with_reducible refine G.any_mark _ ?_; (try generalize Array.size (World.heap (G.w _)) = bk); (try dsimp only [List.set_cons_zero, List.set_cons_succ]); (try clear g); intro g)
  refine (C1.out _ (G.sl g (by simp) H1.out) (G.sl g (by simp) H2.out) (G.tab g HT.out)).mono ?_
  rintro e w1 ⟨Z1, z1, R1, Z2, z2, R2, rfl, hz1, hz2, hn1, hn2⟩
  have ho1 := fun k o hk => Nat.le_trans (G.chg _).size (hn1.new k o hk)
  have ho2 := fun k o hk => Nat.le_trans (G.chg _).size (hn2.new k o hk)
  obtain ⟨g1, rfl⟩ := G.new2_ex _ hn1 hn2
  clear hn1 hn2
  (try clear g)
  revert g1
  intro g
  go_wp2_with (with_reducible refine G.any_mark _ ?_; (try generalize Array.size (World.heap (G.w _)) = bk); (try dsimp only [List.set_cons_zero, List.set_cons_succ]); (try clear g); intro g)
  refine (C2.out _ _ _ _ _).mono ?_
  rintro e w1 ⟨rfl, hb⟩
  obtain ⟨g1, rfl⟩ := G.call_ex _ hb
  clear hb
  (try clear g)
  revert g1
  intro g
  generalize hl1e : (limbs 1).length = le at *
  have HLE := Lib.hid hl1e
  clear hl1e
  go_wp2_with (with_reducible refine G.any_mark _ ?_; (try generalize Array.size (World.heap (G.w _)) = bk); (try dsimp only [List.set_cons_zero, List.set_cons_succ]); (try clear g); intro g)
  refine bodyPost_ret (v := .agg #[.bool t, .slice Z1 (limbs Q).length z1, .slice Z2 le z2]) (by simp [results, Tryd.results51, go_sem]) rfl ?_
  exact ⟨Z1, z1, R1, Z2, z2, R2, by rw [HLE.out], hz1, hz2, G.pass _ (by simp) ho1, G.pass _ (by simp) ho2⟩
theorem round_any (s : Bool) (A B : Option Addr) (c k n d : Nat) (w : World) (h1 : SlW w A c (limbs n)) (h2 : SlW w B k (limbs d)) (hT : Tab w) (hl1 : (limbs n).length ≤ 10000000) (hl2 : (limbs d).length ≤ 10000000) (hd : d ≠ 0) :
    Calls Tryd.prog 51 #[.agg #[.bool s, .slice A (limbs n).length c, .slice B (limbs d).length k]] w (RNq (s && decide (rdq n d ≠ 0)) (rdq n d) 1 w) := by
  cases s
  · exact round_pos A B c k n d w h1 h2 hT hl1 hl2 hd
  · exact round_neg A B c k n d w h1 h2 hT hl1 hl2 hd
end Go.Proofs.YtjdnpkicdmapnaaDoor
namespace Go.Proofs.YtjdnpkicdmapnaaDoor
open Go.RowKit GW NL
set_option maxRecDepth 20000 in
set_option maxHeartbeats 4000000 in
theorem neg1_any (b cap : Nat) (s : Bool) (A B : Option Addr) (c k n d : Nat) (w : World) (f1 : FrAt w b 0 s A (limbs n).length c B (limbs d).length k) (hcap : 1 ≤ cap) (h1 : SlW w A c (limbs n)) (j1 : SlW w B k (limbs d)) (hT : Tab w) (l1 : (limbs n).length ≤ 10000000) (m1 : (limbs d).length ≤ 10000000) (z1 : d ≠ 0) :
    Calls Tryd.prog 52 #[.slice (some ⟨b, 0, none⟩) 1 cap] w (RPE (outP (!s && decide (0 < (limbs n).length)) n d) w) := by
  refine calls_b fun g => ?_
  have C0 := Lib.hid (fun w => minus_any s A B c k (limbs n).length (limbs d).length w)
  have CR := Lib.hid (fun A B c k w h1 h2 => result_any (!s && decide (0 < (limbs n).length)) A B c k n d w h1 h2)
  generalize (!s && decide (0 < (limbs n).length)) = t at *
  have HT := Lib.hid hT
  have E0 := fun (M : List Blk) (g : G w [] M [heapOf w]) => G.old g (List.mem_cons_self ..) f1.c0
  have E1 := fun (M : List Blk) (g : G w [] M [heapOf w]) => G.old g (List.mem_cons_self ..) f1.c1
  have E2 := fun (M : List Blk) (g : G w [] M [heapOf w]) => G.old g (List.mem_cons_self ..) f1.c2
  have H1 := Lib.hid h1
  have J1 := Lib.hid j1
  clear hT f1 z1 h1 j1
  generalize (limbs n).length = ln at *
  generalize (limbs d).length = ld at *
  generalize outP t n d = r at *
  obtain ⟨rs, rn', rd', re⟩ := r
  unfold RPE at CR ⊢
  dsimp only at CR ⊢
  have hcap2 : (1 : Int) ≤ (cap : Int) := by omega
  go_enter Tryd.func52, Tryd.ntmps52
  go_wp2_with (with_reducible refine G.any_mark _ ?_; (try generalize Array.size (World.heap (G.w _)) = bk); (try dsimp only [List.set_cons_zero, List.set_cons_succ]); (try clear g); intro g)
  clear E0 E1 E2
  (try (refine cmark _ ?_; (try dsimp only [List.set_cons_zero, List.set_cons_succ]); (try clear g); intro g))
  refine (C0.out _).mono ?_
  rintro e w1 ⟨rfl, hb⟩
  obtain ⟨g1, rfl⟩ := G.call_ex _ hb
  clear hb
  (try clear g)
  revert g1
  intro g
  go_wp2_with (with_reducible refine G.any_mark _ ?_; (try generalize Array.size (World.heap (G.w _)) = bk); (try dsimp only [List.set_cons_zero, List.set_cons_succ]); (try clear g); intro g)
  refine (CR.out _ _ _ _ _ (G.sl g (by simp) H1.out) (G.sl g (by simp) J1.out)).mono ?_
  rintro e w1 ⟨Z1, z1, R1, Z2, z2, R2, rfl, hz1, hz2, hn1, hn2⟩
  have ho1 := fun k o hk => Nat.le_trans (G.chg _).size (hn1.new k o hk)
  have ho2 := fun k o hk => Nat.le_trans (G.chg _).size (hn2.new k o hk)
  obtain ⟨g1, rfl⟩ := G.new2_ex _ hn1 hn2
  clear hn1 hn2
  (try clear g)
  revert g1
  intro g
  go_wp2_with (with_reducible refine G.any_mark _ ?_; (try generalize Array.size (World.heap (G.w _)) = bk); (try dsimp only [List.set_cons_zero, List.set_cons_succ]); (try clear g); intro g)
  refine bodyPost_ret (v := .tuple #[.agg #[.bool rs, .slice Z1 (limbs rn').length z1, .slice Z2 (limbs rd').length z2], .int .i64 re]) (by simp [results, Tryd.results52, go_sem]) rfl ?_
  exact ⟨Z1, z1, R1, Z2, z2, R2, rfl, hz1, hz2, G.pass _ (by simp) ho1, G.pass _ (by simp) ho2⟩
set_option maxRecDepth 20000 in
set_option maxHeartbeats 4000000 in
theorem floor1_any (b cap : Nat) (s : Bool) (A B : Option Addr) (c k n d : Nat) (w : World) (f1 : FrAt w b 0 s A (limbs n).length c B (limbs d).length k) (hcap : 1 ≤ cap) (h1 : SlW w A c (limbs n)) (j1 : SlW w B k (limbs d)) (hT : Tab w) (l1 : (limbs n).length ≤ 10000000) (m1 : (limbs d).length ≤ 10000000) (z1 : d ≠ 0) :
    Calls Tryd.prog 48 #[.slice (some ⟨b, 0, none⟩) 1 cap] w (RPE (outP (s && decide (flq s n d ≠ 0)) (flq s n d) 1) w) := by
  refine calls_b fun g => ?_
  have C0 := Lib.hid (fun w a b => floor_any s A B c k n d w a b (by omega) (by omega) z1)
  have CR := Lib.hid (fun A B c k w h1 h2 => result_any (s && decide (flq s n d ≠ 0)) A B c k (flq s n d) 1 w h1 h2)
  generalize flq s n d = Q at *
  generalize (s && decide (Q ≠ 0)) = t at *
  have HT := Lib.hid hT
  have E0 := fun (M : List Blk) (g : G w [] M [heapOf w]) => G.old g (List.mem_cons_self ..) f1.c0
  have E1 := fun (M : List Blk) (g : G w [] M [heapOf w]) => G.old g (List.mem_cons_self ..) f1.c1
  have E2 := fun (M : List Blk) (g : G w [] M [heapOf w]) => G.old g (List.mem_cons_self ..) f1.c2
  have H1 := Lib.hid h1
  have J1 := Lib.hid j1
  clear hT f1 z1 h1 j1
  generalize (limbs n).length = ln at *
  generalize (limbs d).length = ld at *
  generalize outP t Q 1 = r at *
  obtain ⟨rs, rn', rd', re⟩ := r
  unfold RPE at CR ⊢
  dsimp only at CR ⊢
  have hcap2 : (1 : Int) ≤ (cap : Int) := by omega
  go_enter Tryd.func48, Tryd.ntmps48
  go_wp2_with (with_reducible refine G.any_mark _ ?_; (try generalize Array.size (World.heap (G.w _)) = bk); (try dsimp only [List.set_cons_zero, List.set_cons_succ]); (try clear g); intro g)
  clear E0 E1 E2
  (try (refine cmark _ ?_; (try dsimp only [List.set_cons_zero, List.set_cons_succ]); (try clear g); intro g))
  refine (C0.out _ (G.sl g (by simp) H1.out) (G.sl g (by simp) J1.out)).mono ?_
  rintro e w1 ⟨Y1, y1, Q1, Y2, y2, Q2, rfl, hy1, hy2, hn1, hn2⟩
  obtain ⟨g1, rfl⟩ := G.new2_ex _ hn1 hn2
  clear hn1 hn2
  (try clear g)
  revert g1
  intro g
  go_wp2_with (with_reducible refine G.any_mark _ ?_; (try generalize Array.size (World.heap (G.w _)) = bk); (try dsimp only [List.set_cons_zero, List.set_cons_succ]); (try clear g); intro g)
  refine (CR.out _ _ _ _ _ (G.sl g (by simp) hy1) (G.sl g (by simp) hy2)).mono ?_
  rintro e w1 ⟨Z1, z1, R1, Z2, z2, R2, rfl, hz1, hz2, hn1, hn2⟩
  have ho1 := fun k o hk => Nat.le_trans (G.chg _).size (hn1.new k o hk)
  have ho2 := fun k o hk => Nat.le_trans (G.chg _).size (hn2.new k o hk)
  obtain ⟨g1, rfl⟩ := G.new2_ex _ hn1 hn2
  clear hn1 hn2
  (try clear g)
  revert g1
  intro g
  go_wp2_with (with_reducible refine G.any_mark _ ?_; (try generalize Array.size (World.heap (G.w _)) = bk); (try dsimp only [List.set_cons_zero, List.set_cons_succ]); (try clear g); intro g)
  refine bodyPost_ret (v := .tuple #[.agg #[.bool rs, .slice Z1 (limbs rn').length z1, .slice Z2 (limbs rd').length z2], .int .i64 re]) (by simp [results, Tryd.results48, go_sem]) rfl ?_
  exact ⟨Z1, z1, R1, Z2, z2, R2, rfl, hz1, hz2, G.pass _ (by simp) ho1, G.pass _ (by simp) ho2⟩
set_option maxRecDepth 20000 in
set_option maxHeartbeats 4000000 in
theorem round1_any (b cap : Nat) (s : Bool) (A B : Option Addr) (c k n d : Nat) (w : World) (f1 : FrAt w b 0 s A (limbs n).length c B (limbs d).length k) (hcap : 1 ≤ cap) (h1 : SlW w A c (limbs n)) (j1 : SlW w B k (limbs d)) (hT : Tab w) (l1 : (limbs n).length ≤ 10000000) (m1 : (limbs d).length ≤ 10000000) (z1 : d ≠ 0) :
    Calls Tryd.prog 50 #[.slice (some ⟨b, 0, none⟩) 1 cap] w (RPE (outP (s && decide (rdq n d ≠ 0)) (rdq n d) 1) w) := by
  refine calls_b fun g => ?_
  have C0 := Lib.hid (fun w a b t => round_any s A B c k n d w a b t l1 m1 z1)
  have CR := Lib.hid (fun A B c k w h1 h2 => result_any (s && decide (rdq n d ≠ 0)) A B c k (rdq n d) 1 w h1 h2)
  generalize rdq n d = Q at *
  generalize (s && decide (Q ≠ 0)) = t at *
  have HT := Lib.hid hT
  have E0 := fun (M : List Blk) (g : G w [] M [heapOf w]) => G.old g (List.mem_cons_self ..) f1.c0
  have E1 := fun (M : List Blk) (g : G w [] M [heapOf w]) => G.old g (List.mem_cons_self ..) f1.c1
  have E2 := fun (M : List Blk) (g : G w [] M [heapOf w]) => G.old g (List.mem_cons_self ..) f1.c2
  have H1 := Lib.hid h1
  have J1 := Lib.hid j1
  clear hT f1 z1 h1 j1
  generalize (limbs n).length = ln at *
  generalize (limbs d).length = ld at *
  generalize outP t Q 1 = r at *
  obtain ⟨rs, rn', rd', re⟩ := r
  unfold RPE at CR ⊢
  dsimp only at CR ⊢
  have hcap2 : (1 : Int) ≤ (cap : Int) := by omega
  go_enter Tryd.func50, Tryd.ntmps50
  go_wp2_with (with_reducible refine G.any_mark _ ?_; (try generalize Array.size (World.heap (G.w _)) = bk); (try dsimp only [List.set_cons_zero, List.set_cons_succ]); (try clear g); intro g)
  clear E0 E1 E2
  (try (refine cmark _ ?_; (try dsimp only [List.set_cons_zero, List.set_cons_succ]); (try clear g); intro g))
  refine (C0.out _ (G.sl g (by simp) H1.out) (G.sl g (by simp) J1.out) (G.tab g HT.out)).mono ?_
  rintro e w1 ⟨Y1, y1, Q1, Y2, y2, Q2, rfl, hy1, hy2, hn1, hn2⟩
  obtain ⟨g1, rfl⟩ := G.new2_ex _ hn1 hn2
  clear hn1 hn2
  (try clear g)
  revert g1
  intro g
  go_wp2_with (with_reducible refine G.any_mark _ ?_; (try generalize Array.size (World.heap (G.w _)) = bk); (try dsimp only [List.set_cons_zero, List.set_cons_succ]); (try clear g); intro g)
  refine (CR.out _ _ _ _ _ (G.sl g (by simp) hy1) (G.sl g (by simp) hy2)).mono ?_
  rintro e w1 ⟨Z1, z1, R1, Z2, z2, R2, rfl, hz1, hz2, hn1, hn2⟩
  have ho1 := fun k o hk => Nat.le_trans (G.chg _).size (hn1.new k o hk)
  have ho2 := fun k o hk => Nat.le_trans (G.chg _).size (hn2.new k o hk)
  obtain ⟨g1, rfl⟩ := G.new2_ex _ hn1 hn2
  clear hn1 hn2
  (try clear g)
  revert g1
  intro g
  go_wp2_with (with_reducible refine G.any_mark _ ?_; (try generalize Array.size (World.heap (G.w _)) = bk); (try dsimp only [List.set_cons_zero, List.set_cons_succ]); (try clear g); intro g)
  refine bodyPost_ret (v := .tuple #[.agg #[.bool rs, .slice Z1 (limbs rn').length z1, .slice Z2 (limbs rd').length z2], .int .i64 re]) (by simp [results, Tryd.results50, go_sem]) rfl ?_
  exact ⟨Z1, z1, R1, Z2, z2, R2, rfl, hz1, hz2, G.pass _ (by simp) ho1, G.pass _ (by simp) ho2⟩
end Go.Proofs.YtjdnpkicdmapnaaDoor
