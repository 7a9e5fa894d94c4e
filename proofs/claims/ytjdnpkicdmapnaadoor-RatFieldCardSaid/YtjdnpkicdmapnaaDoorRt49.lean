/- Plain facts and contracts of functions of the program, out of walks. Their conditions stand ahead of each. -/
import Derived.Test.YtjdnpkicdmapnaaDoorRt48
import Derived.Below
import Derived.BigQuiet
import Derived.Deep.Draws
import Derived.Deep.LoopGhost
import Derived.Deep.QuietTactic
import Derived.Deep.RegionHeld3
import Derived.Deep.RegionLaw
import Derived.Defers
import Derived.Laws.BytesString
import Derived.Laws.Cells
import Derived.Laws.Concat
import Derived.Laws.CopyOwn
import Derived.Laws.CopyRow
import Derived.Laws.NewBlocks
import Derived.Laws.OwnMore
import Derived.Laws.Pointers
import Derived.Laws.Rows
import Derived.Lib.BitFns
import Derived.Lib.Hide
import Derived.Lib.ItoaNum
import Derived.Lib.TrailingZeros
import Derived.LoopIn
import Derived.LoopNIn
import Derived.Maps.AppendAt
import Derived.OrdersIn
import Derived.OwnWalk
import Derived.OwnWalkIn
import Derived.RangeFuncBound
import Derived.RangeFuncBox
import Derived.RangeFuncCalls
import Derived.RangeFuncLeaves
import Derived.RangeFuncNested
import Derived.RowKit3
import Derived.Shelf.Abstract
import Derived.Shelf.RegionOpen
import Derived.Shelf.Spec.TrailingZeros
import Derived.StillTactics
import Derived.StillTailTactics
import Derived.TacticsInMore
import Derived.Test.YtjdnpkicdmapnaaDoorProg
import Derived.WalkKit
import Derived.WalkLawsBesides
import Derived.WalkMore
import Derived.WalkSpells
set_option linter.unusedVariables false
set_option linter.unusedSimpArgs false
set_option exponentiation.threshold 10000
namespace Go.Proofs.YtjdnpkicdmapnaaDoor
open Go.RowKit GW NL
theorem pick_bool {P : Program} {f : FuncId} {v : Value} {s : Bool} {w : World} {R : Ending → World → Prop} (h : ∀ s : Bool, Calls P f #[v, .bool s] w R) : Calls P f #[v, .bool s] w R := h s
theorem llen_ne {v : Nat} (h : v ≠ 0) : 0 < (limbs v).length := by
  rcases Nat.eq_zero_or_pos (limbs v).length with h1 | h1
  · exact absurd (limbs_nil.1 (List.eq_nil_of_length_eq_zero h1)) h
  · exact h1
theorem bd_lit (s : Bool) {n d : Nat} (hd : d ≠ 0) (h1 : n < 2 ^ 64) (h2 : d < 2 ^ 64) : Bd 8192 (frac s n d) := (Bd.frac s hd h1 h2).mono (by decide)
theorem dec_one {d : Nat} (h : d < 10) (h0 : d ≠ 0) : dec d = [48 + d] := by
  unfold dec
  rw [if_neg h0, digs_pos h0, show d / 10 = 0 by omega, show d % 10 = d by omega, digs_zero]
  rfl
theorem qtext_lit : qtext (rneg (frac true 3 2)) (rn (frac true 3 2)) (frac true 3 2).den = { data := #[45, 51, 47, 50] } := by
  rw [show rneg (frac true 3 2) = true by decide +kernel, show rn (frac true 3 2) = 3 by decide +kernel, show (frac true 3 2).den = 2 by decide +kernel]
  unfold qtext
  rw [dec_one (by decide) (by decide), dec_one (by decide) (by decide)]
  rfl
set_option maxRecDepth 20000 in
set_option maxHeartbeats 2000000 in
theorem llives_x (w : World) (hT : Tab w) : Calls Tryd.prog 7 #[] w fun e w' => e = .returned (.bool true) ∧ Below w.heap.size w w' := by
  refine calls_b fun g => ?_
  have hq := qtext_lit
  obtain ⟨a, ha⟩ : ∃ a, frac true 3 2 = a := ⟨_, rfl⟩
  obtain ⟨b, hb⟩ : ∃ b, frac false 1 2 = b := ⟨_, rfl⟩
  obtain ⟨c, hc⟩ : ∃ c, frac false 1 3 = c := ⟨_, rfl⟩
  obtain ⟨d, hd⟩ : ∃ d, frac false 5 6 = d := ⟨_, rfl⟩
  have E1 : Hid (frac (decide ((6 : Int) < 0) != decide ((-4 : Int) < 0)) (6 : Int).natAbs (-4 : Int).natAbs = a) := Lib.hid (by rw [← ha]; decide +kernel)
  have E2 : Hid (frac (decide ((1 : Int) < 0) != decide ((2 : Int) < 0)) (1 : Int).natAbs (2 : Int).natAbs = b) := Lib.hid (by rw [← hb]; decide +kernel)
  have E3 : Hid (frac (decide ((1 : Int) < 0) != decide ((3 : Int) < 0)) (1 : Int).natAbs (3 : Int).natAbs = c) := Lib.hid (by rw [← hc]; decide +kernel)
  have E4 : Hid (frac (decide ((-3 : Int) < 0) != decide ((2 : Int) < 0)) (-3 : Int).natAbs (2 : Int).natAbs = a) := Lib.hid (by rw [← ha]; decide +kernel)
  have E5 : Hid (frac (decide ((5 : Int) < 0) != decide ((6 : Int) < 0)) (5 : Int).natAbs (6 : Int).natAbs = d) := Lib.hid (by rw [← hd]; decide +kernel)
  have E6 : Hid (b + c = d) := Lib.hid (by rw [← hb, ← hc, ← hd]; decide +kernel)
  have HBa : Hid (Bd 8192 a) := Lib.hid (by rw [← ha]; exact bd_lit _ (by decide) (by decide) (by decide))
  have HBb : Hid (Bd 8192 b) := Lib.hid (by rw [← hb]; exact bd_lit _ (by decide) (by decide) (by decide))
  have HBc : Hid (Bd 8192 c) := Lib.hid (by rw [← hc]; exact bd_lit _ (by decide) (by decide) (by decide))
  have HBd : Hid (Bd 8192 d) := Lib.hid (by rw [← hd]; exact bd_lit _ (by decide) (by decide) (by decide))
  rw [ha] at hq
  have HQ := Lib.hid hq
  have HT := Lib.hid hT
  clear ha hb hc hd hq hT
  go_enter Tryd.func7, Tryd.ntmps7
  go_wp2_with (with_reducible refine G.any_mark _ ?_; (try generalize Array.size (World.heap (G.w _)) = bk); (try dsimp only [List.set_cons_zero, List.set_cons_succ]); (try clear g); intro g)
  (try (refine cmark _ ?_; (try dsimp only [List.set_cons_zero, List.set_cons_succ]); (try clear g); intro g))
  refine (qOf_x 6 (-4) a (by decide) HBa.out E1.out (by decide) (by decide) (by decide) (by decide) _ (G.tab g HT.out)).mono ?_
  rintro e w1 ⟨Aa, ca, Fa, Ba, da, Ha, rfl, hsa, hta, hn, hm⟩
  have hnna := fun k o hk => Nat.le_trans g.chg.size (hn.new k o hk)
  have hmma := fun k o hk => Nat.le_trans g.chg.size (hm.new k o hk)
  obtain ⟨g1, rfl⟩ := G.new2_ex _ hn hm
  clear hn hm
  (try clear g)
  revert g1
  intro g
  go_wp2_with (with_reducible refine G.any_mark _ ?_; (try generalize Array.size (World.heap (G.w _)) = bk); (try dsimp only [List.set_cons_zero, List.set_cons_succ]); (try clear g); intro g)
  (try (refine cmark _ ?_; (try dsimp only [List.set_cons_zero, List.set_cons_succ]); (try clear g); intro g))
  refine (lof_x (1) (2) b (by decide) E2.out (by decide) (by decide) (by decide) (by decide) _).mono ?_
  rintro e w1 ⟨Ab, cb, Fb, Bb, db, Hb, rfl, hsb, htb, hn, hm⟩
  have hnnb := fun k o hk => Nat.le_trans g.chg.size (hn.new k o hk)
  have hmmb := fun k o hk => Nat.le_trans g.chg.size (hm.new k o hk)
  obtain ⟨g1, rfl⟩ := G.new2_ex _ hn hm
  clear hn hm
  (try clear g)
  revert g1
  intro g
  go_wp2_with (with_reducible refine G.any_mark _ ?_; (try generalize Array.size (World.heap (G.w _)) = bk); (try dsimp only [List.set_cons_zero, List.set_cons_succ]); (try clear g); intro g)
  (try (refine cmark _ ?_; (try dsimp only [List.set_cons_zero, List.set_cons_succ]); (try clear g); intro g))
  refine (lof_x (1) (3) c (by decide) E3.out (by decide) (by decide) (by decide) (by decide) _).mono ?_
  rintro e w1 ⟨Ac, cc, Fc, Bc, dc, Hc, rfl, hsc, htc, hn, hm⟩
  have hnnc := fun k o hk => Nat.le_trans g.chg.size (hn.new k o hk)
  have hmmc := fun k o hk => Nat.le_trans g.chg.size (hm.new k o hk)
  obtain ⟨g1, rfl⟩ := G.new2_ex _ hn hm
  clear hn hm
  (try clear g)
  revert g1
  intro g
  go_wp2_with (with_reducible refine G.any_mark _ ?_; (try generalize Array.size (World.heap (G.w _)) = bk); (try dsimp only [List.set_cons_zero, List.set_cons_succ]); (try clear g); intro g)
  (try (refine cmark _ ?_; (try dsimp only [List.set_cons_zero, List.set_cons_succ]); (try clear g); intro g))
  refine (qAdd_x _ _ _ _ _ _ _ _ b c d HBb.out HBc.out HBd.out E6.out _ (G.sl g (by simp) hsb) (G.sl g (by simp) htb) (G.sl g (by simp) hsc) (G.sl g (by simp) htc) (G.tab g HT.out)).mono ?_
  rintro e w1 ⟨Ad, cd, Fd, Bd, dd, Hd, rfl, hsd, htd, hn, hm⟩
  have hnnd := fun k o hk => Nat.le_trans g.chg.size (hn.new k o hk)
  have hmmd := fun k o hk => Nat.le_trans g.chg.size (hm.new k o hk)
  obtain ⟨g1, rfl⟩ := G.new2_ex _ hn hm
  clear hn hm
  (try clear g)
  revert g1
  intro g
  go_wp2_with (with_reducible refine G.any_mark _ ?_; (try generalize Array.size (World.heap (G.w _)) = bk); (try dsimp only [List.set_cons_zero, List.set_cons_succ]); (try clear g); intro g)
  (try (refine cmark _ ?_; (try dsimp only [List.set_cons_zero, List.set_cons_succ]); (try clear g); intro g))
  refine (lof_x (-3) (2) a (by decide) E4.out (by decide) (by decide) (by decide) (by decide) _).mono ?_
  rintro e w1 ⟨Ae, ce, Fe, Be, de, He, rfl, hse, hte, hn, hm⟩
  have hnne := fun k o hk => Nat.le_trans g.chg.size (hn.new k o hk)
  have hmme := fun k o hk => Nat.le_trans g.chg.size (hm.new k o hk)
  obtain ⟨g1, rfl⟩ := G.new2_ex _ hn hm
  clear hn hm
  (try clear g)
  revert g1
  intro g
  go_wp2_with (with_reducible refine G.any_mark _ ?_; (try generalize Array.size (World.heap (G.w _)) = bk); (try dsimp only [List.set_cons_zero, List.set_cons_succ]); (try clear g); intro g)
  (try (refine cmark _ ?_; (try dsimp only [List.set_cons_zero, List.set_cons_succ]); (try clear g); intro g))
  refine (qText_x _ _ _ _ a HBa.out _ (G.sl g (by simp) hse) (G.sl g (by simp) hte) (G.tab g HT.out)).mono ?_
  rw [HQ.out]
  rintro e w1 ⟨rfl, hb⟩
  obtain ⟨g1, rfl⟩ := G.call_ex _ hb
  clear hb
  (try clear g)
  revert g1
  intro g
  go_wp2_with (with_reducible refine G.any_mark _ ?_; (try generalize Array.size (World.heap (G.w _)) = bk); (try dsimp only [List.set_cons_zero, List.set_cons_succ]); (try clear g); intro g)
  (try (refine cmark _ ?_; (try dsimp only [List.set_cons_zero, List.set_cons_succ]); (try clear g); intro g))
  refine (lis_x _ _ _ _ (-3) 2 a (by decide) E4.out (by decide) (by decide) (by decide) (by decide) _ (G.sl g (by simp) hsa) (G.sl g (by simp) hta)).mono ?_
  rintro e w1 ⟨rfl, hb⟩
  obtain ⟨g1, rfl⟩ := G.call_ex _ hb
  clear hb
  (try clear g)
  revert g1
  intro g
  go_wp2_with (with_reducible refine G.any_mark _ ?_; (try generalize Array.size (World.heap (G.w _)) = bk); (try dsimp only [List.set_cons_zero, List.set_cons_succ]); (try clear g); intro g)
  (try (refine cmark _ ?_; (try dsimp only [List.set_cons_zero, List.set_cons_succ]); (try clear g); intro g))
  refine (lis_x _ _ _ _ 5 6 d (by decide) E5.out (by decide) (by decide) (by decide) (by decide) _ (G.sl g (by simp) hsd) (G.sl g (by simp) htd)).mono ?_
  rintro e w1 ⟨rfl, hb⟩
  obtain ⟨g1, rfl⟩ := G.call_ex _ hb
  clear hb
  (try clear g)
  revert g1
  intro g
  go_wp2_with (with_reducible refine G.any_mark _ ?_; (try generalize Array.size (World.heap (G.w _)) = bk); (try dsimp only [List.set_cons_zero, List.set_cons_succ]); (try clear g); intro g)
  go_ret
  exact ⟨rfl, G.below _⟩
end Go.Proofs.YtjdnpkicdmapnaaDoor
namespace Go.Proofs.YtjdnpkicdmapnaaDoor
open Go.RowKit GW NL
set_option maxRecDepth 20000 in
set_option maxHeartbeats 8000000 in
theorem field_walk (A1 A2 A3 : Option Addr) (c1 c2 c3 : Nat) (l1 l2 l3 : List Nat) (n : Int) (w : World) (h1 : SlW w A1 c1 l1) (h2 : SlW w A2 c2 l2) (h3 : SlW w A3 c3 l3) (hT : Tab w) :
    Calls Tryd.prog 3 #[.slice A1 l1.length c1, .slice A2 l2.length c2, .slice A3 l3.length c3, .int .i64 n] w fun e w' => e = .returned (.bool true) ∧ Below w.heap.size w w' := by
  refine calls_b fun g => ?_
  have CL := Lib.hid llives_x
  have CV1 := Lib.hid (fun s w h => lvalid_x A1 c1 l1 s w h)
  have CV2 := Lib.hid (fun s w h => lvalid_x A2 c2 l2 s w h)
  have CV3 := Lib.hid (fun s w h => lvalid_x A3 c3 l3 s w h)
  unfold RNf at CV1 CV2 CV3
  have HO1 := Lib.hid h1.ok
  have HO2 := Lib.hid h2.ok
  have HO3 := Lib.hid h3.ok
  have H1 := Lib.hid h1
  have H2 := Lib.hid h2
  have H3 := Lib.hid h3
  have HT := Lib.hid hT
  clear h1 h2 h3 hT
  generalize l1.length = n1 at *
  generalize l2.length = n2 at *
  generalize l3.length = n3 at *
  go_enter Tryd.func3, Tryd.ntmps3
  go_wp2_with (with_reducible refine G.any_mark _ ?_; (try generalize Array.size (World.heap (G.w _)) = bk); (try dsimp only [List.set_cons_zero, List.set_cons_succ]); (try clear g); intro g)
  refine (CL.out _ (G.tab g HT.out)).mono ?_
  rintro e w1 ⟨rfl, hb⟩
  obtain ⟨g1, rfl⟩ := G.call_ex _ hb
  clear hb
  (try clear g)
  revert g1
  intro g
  go_wp2_with (with_reducible refine G.any_mark _ ?_; (try generalize Array.size (World.heap (G.w _)) = bk); (try dsimp only [List.set_cons_zero, List.set_cons_succ]); (try clear g); intro g)
  refine pick_bool ?_
  intro sa
  (try (refine cmark _ ?_; (try dsimp only [List.set_cons_zero, List.set_cons_succ]); (try clear g); intro g))
  refine (CV1.out sa _ (G.sl g (by simp) H1.out)).mono ?_
  rintro e w1 ⟨Aa, ca, Fa, Ba, da, Ha, rfl, hsa, hta, hn, hm⟩
  have hnna := fun k o hk => Nat.le_trans g.chg.size (hn.new k o hk)
  have hmma := fun k o hk => Nat.le_trans g.chg.size (hm.new k o hk)
  obtain ⟨g1, rfl⟩ := G.new2_ex _ hn hm
  clear hn hm
  (try clear g)
  revert g1
  intro g
  go_wp2_with (with_reducible refine G.any_mark _ ?_; (try generalize Array.size (World.heap (G.w _)) = bk); (try dsimp only [List.set_cons_zero, List.set_cons_succ]); (try clear g); intro g)
  refine pick_bool ?_
  intro sb
  (try (refine cmark _ ?_; (try dsimp only [List.set_cons_zero, List.set_cons_succ]); (try clear g); intro g))
  refine (CV2.out sb _ (G.sl g (by simp) H2.out)).mono ?_
  rintro e w1 ⟨Ab, cb, Fb, Bb, db, Hb, rfl, hsb, htb, hn, hm⟩
  have hnnb := fun k o hk => Nat.le_trans g.chg.size (hn.new k o hk)
  have hmmb := fun k o hk => Nat.le_trans g.chg.size (hm.new k o hk)
  obtain ⟨g1, rfl⟩ := G.new2_ex _ hn hm
  clear hn hm
  (try clear g)
  revert g1
  intro g
  go_wp2_with (with_reducible refine G.any_mark _ ?_; (try generalize Array.size (World.heap (G.w _)) = bk); (try dsimp only [List.set_cons_zero, List.set_cons_succ]); (try clear g); intro g)
  refine pick_bool ?_
  intro sc
  (try (refine cmark _ ?_; (try dsimp only [List.set_cons_zero, List.set_cons_succ]); (try clear g); intro g))
  refine (CV3.out sc _ (G.sl g (by simp) H3.out)).mono ?_
  rintro e w1 ⟨Ac, cc, Fc, Bc, dc, Hc, rfl, hsc, htc, hn, hm⟩
  have hnnc := fun k o hk => Nat.le_trans g.chg.size (hn.new k o hk)
  have hmmc := fun k o hk => Nat.le_trans g.chg.size (hm.new k o hk)
  obtain ⟨g1, rfl⟩ := G.new2_ex _ hn hm
  clear hn hm
  (try clear g)
  revert g1
  intro g
  go_wp2_with (with_reducible refine G.any_mark _ ?_; (try generalize Array.size (World.heap (G.w _)) = bk); (try dsimp only [List.set_cons_zero, List.set_cons_succ]); (try clear g); intro g)
  obtain ⟨a, ha, hba⟩ : ∃ a, vq sa l1 = a ∧ Bd 288 a := ⟨_, rfl, vq_bd _ HO1.out⟩
  obtain ⟨b, hb, hbb⟩ : ∃ b, vq sb l2 = b ∧ Bd 288 b := ⟨_, rfl, vq_bd _ HO2.out⟩
  obtain ⟨c, hc, hbc⟩ : ∃ c, vq sc l3 = c ∧ Bd 288 c := ⟨_, rfl, vq_bd _ HO3.out⟩
  rw [ha] at hsa hta ⊢
  rw [hb] at hsb htb ⊢
  rw [hc] at hsc htc ⊢
  clear ha hb hc CV1 CV2 CV3 CL HO1 HO2 HO3 H1 H2 H3
  obtain ⟨ab, e1⟩ : ∃ x, a + b = x := ⟨_, rfl⟩
  obtain ⟨abc, e2⟩ : ∃ x, ab + c = x := ⟨_, rfl⟩
  obtain ⟨bc, e3⟩ : ∃ x, b + c = x := ⟨_, rfl⟩
  obtain ⟨p1, f1⟩ : ∃ x, a * b = x := ⟨_, rfl⟩
  obtain ⟨p3, f3⟩ : ∃ x, p1 * c = x := ⟨_, rfl⟩
  obtain ⟨p4, f4⟩ : ∃ x, b * c = x := ⟨_, rfl⟩
  obtain ⟨p6, f6⟩ : ∃ x, a * bc = x := ⟨_, rfl⟩
  obtain ⟨p7, f7⟩ : ∃ x, a * c = x := ⟨_, rfl⟩
  have hab : Bd 577 ab := by rw [← e1]; exact hba.add hbb
  have habc : Bd 866 abc := by rw [← e2]; exact hab.add hbc
  have hbbc : Bd 577 bc := by rw [← e3]; exact hbb.add hbc
  have hp1 : Bd 576 p1 := by rw [← f1]; exact hba.mul hbb
  have hp3 : Bd 864 p3 := by rw [← f3]; exact hp1.mul hbc
  have hp4 : Bd 576 p4 := by rw [← f4]; exact hbb.mul hbc
  have hp6 : Bd 865 p6 := by rw [← f6]; exact hba.mul hbbc
  have hp7 : Bd 576 p7 := by rw [← f7]; exact hba.mul hbc
  have HBa := Lib.hid (hba.mono (show 288 ≤ 8192 by decide))
  have HBb := Lib.hid (hbb.mono (show 288 ≤ 8192 by decide))
  have HBc := Lib.hid (hbc.mono (show 288 ≤ 8192 by decide))
  have HBab := Lib.hid (hab.mono (show 577 ≤ 8192 by decide))
  have HBabc := Lib.hid (habc.mono (show 866 ≤ 8192 by decide))
  have HBbc := Lib.hid (hbbc.mono (show 577 ≤ 8192 by decide))
  have HBp1 := Lib.hid (hp1.mono (show 576 ≤ 8192 by decide))
  have HBp3 := Lib.hid (hp3.mono (show 864 ≤ 8192 by decide))
  have HBp4 := Lib.hid (hp4.mono (show 576 ≤ 8192 by decide))
  have HBp6 := Lib.hid (hp6.mono (show 865 ≤ 8192 by decide))
  have HBp7 := Lib.hid (hp7.mono (show 576 ≤ 8192 by decide))
  have E2 : Hid (b + a = ab) := Lib.hid (by rw [← e1]; exact Rat.add_comm _ _)
  have E5 : Hid (a + bc = abc) := Lib.hid (by rw [← e3, ← e2, ← e1]; exact (Rat.add_assoc _ _ _).symm)
  have E6 : Hid (ab - b = a) := Lib.hid (by rw [← e1]; exact Rat.add_sub_cancel)
  have F2 : Hid (b * a = p1) := Lib.hid (by rw [← f1]; exact Rat.mul_comm _ _)
  have F5 : Hid (a * p4 = p3) := Lib.hid (by rw [← f4, ← f3, ← f1]; exact (Rat.mul_assoc _ _ _).symm)
  have F8 : Hid (p1 + p7 = p6) := Lib.hid (by rw [← f1, ← f7, ← f6, ← e3]; exact (Rat.mul_add _ _ _).symm)
  have FQ : Hid (rn b ≠ 0 → p1 / b = a) := Lib.hid (by intro h; rw [← f1]; exact Rat.mul_div_cancel (fun hb => h ((rn_zero_iff b).2 hb)))
  have E1 := Lib.hid e1
  have E3 := Lib.hid e2
  have E4 := Lib.hid e3
  have F1 := Lib.hid f1
  have F3 := Lib.hid f3
  have F4 := Lib.hid f4
  have F6 := Lib.hid f6
  have F7 := Lib.hid f7
  clear e1 e2 e3 f1 f3 f4 f6 f7 hba hbb hbc hab habc hbbc hp1 hp3 hp4 hp6 hp7
  (as_aux_lemma =>
  (try (refine cmark _ ?_; (try dsimp only [List.set_cons_zero, List.set_cons_succ]); (try clear g); intro g))
  refine (qAdd_x _ _ _ _ _ _ _ _ a b ab HBa.out HBb.out HBab.out E1.out _ (G.sl g (by simp) hsa) (G.sl g (by simp) hta) (G.sl g (by simp) hsb) (G.sl g (by simp) htb) (G.tab g HT.out)).mono ?_
  rintro e w1 ⟨Ad, cd, Fd, Bd, dd, Hd, rfl, hsd, htd, hn, hm⟩
  have hnnd := fun k o hk => Nat.le_trans g.chg.size (hn.new k o hk)
  have hmmd := fun k o hk => Nat.le_trans g.chg.size (hm.new k o hk)
  obtain ⟨g1, rfl⟩ := G.new2_ex _ hn hm
  clear hn hm
  (try clear g)
  revert g1
  intro g
  go_wp2_with (with_reducible refine G.any_mark _ ?_; (try generalize Array.size (World.heap (G.w _)) = bk); (try dsimp only [List.set_cons_zero, List.set_cons_succ]); (try clear g); intro g)
  (try (refine cmark _ ?_; (try dsimp only [List.set_cons_zero, List.set_cons_succ]); (try clear g); intro g))
  refine (qAdd_x _ _ _ _ _ _ _ _ b a ab HBb.out HBa.out HBab.out E2.out _ (G.sl g (by simp) hsb) (G.sl g (by simp) htb) (G.sl g (by simp) hsa) (G.sl g (by simp) hta) (G.tab g HT.out)).mono ?_
  rintro e w1 ⟨Ae, ce, Fe, Be, de, He, rfl, hse, hte, hn, hm⟩
  have hnne := fun k o hk => Nat.le_trans g.chg.size (hn.new k o hk)
  have hmme := fun k o hk => Nat.le_trans g.chg.size (hm.new k o hk)
  obtain ⟨g1, rfl⟩ := G.new2_ex _ hn hm
  clear hn hm
  (try clear g)
  revert g1
  intro g
  go_wp2_with (with_reducible refine G.any_mark _ ?_; (try generalize Array.size (World.heap (G.w _)) = bk); (try dsimp only [List.set_cons_zero, List.set_cons_succ]); (try clear g); intro g)
  (try (refine cmark _ ?_; (try dsimp only [List.set_cons_zero, List.set_cons_succ]); (try clear g); intro g))
  refine (qAdd_x _ _ _ _ _ _ _ _ ab c abc HBab.out HBc.out HBabc.out E3.out _ (G.sl g (by simp) hsd) (G.sl g (by simp) htd) (G.sl g (by simp) hsc) (G.sl g (by simp) htc) (G.tab g HT.out)).mono ?_
  rintro e w1 ⟨Af, cf, Ff, Bf, df, Hf, rfl, hsf, htf, hn, hm⟩
  have hnnf := fun k o hk => Nat.le_trans g.chg.size (hn.new k o hk)
  have hmmf := fun k o hk => Nat.le_trans g.chg.size (hm.new k o hk)
  obtain ⟨g1, rfl⟩ := G.new2_ex _ hn hm
  clear hn hm
  (try clear g)
  revert g1
  intro g
  go_wp2_with (with_reducible refine G.any_mark _ ?_; (try generalize Array.size (World.heap (G.w _)) = bk); (try dsimp only [List.set_cons_zero, List.set_cons_succ]); (try clear g); intro g)
  (as_aux_lemma =>
  (try (refine cmark _ ?_; (try dsimp only [List.set_cons_zero, List.set_cons_succ]); (try clear g); intro g))
  refine (qAdd_x _ _ _ _ _ _ _ _ b c bc HBb.out HBc.out HBbc.out E4.out _ (G.sl g (by simp) hsb) (G.sl g (by simp) htb) (G.sl g (by simp) hsc) (G.sl g (by simp) htc) (G.tab g HT.out)).mono ?_
  rintro e w1 ⟨Ai, ci, Fi, Bi, di, Hi, rfl, hsi, hti, hn, hm⟩
  have hnni := fun k o hk => Nat.le_trans g.chg.size (hn.new k o hk)
  have hmmi := fun k o hk => Nat.le_trans g.chg.size (hm.new k o hk)
  obtain ⟨g1, rfl⟩ := G.new2_ex _ hn hm
  clear hn hm
  (try clear g)
  revert g1
  intro g
  go_wp2_with (with_reducible refine G.any_mark _ ?_; (try generalize Array.size (World.heap (G.w _)) = bk); (try dsimp only [List.set_cons_zero, List.set_cons_succ]); (try clear g); intro g)
  (try (refine cmark _ ?_; (try dsimp only [List.set_cons_zero, List.set_cons_succ]); (try clear g); intro g))
  refine (qAdd_x _ _ _ _ _ _ _ _ a bc abc HBa.out HBbc.out HBabc.out E5.out _ (G.sl g (by simp) hsa) (G.sl g (by simp) hta) (G.sl g (by simp) hsi) (G.sl g (by simp) hti) (G.tab g HT.out)).mono ?_
  rintro e w1 ⟨Aj, cj, Fj, Bj, dj, Hj, rfl, hsj, htj, hn, hm⟩
  have hnnj := fun k o hk => Nat.le_trans g.chg.size (hn.new k o hk)
  have hmmj := fun k o hk => Nat.le_trans g.chg.size (hm.new k o hk)
  obtain ⟨g1, rfl⟩ := G.new2_ex _ hn hm
  clear hn hm
  (try clear g)
  revert g1
  intro g
  go_wp2_with (with_reducible refine G.any_mark _ ?_; (try generalize Array.size (World.heap (G.w _)) = bk); (try dsimp only [List.set_cons_zero, List.set_cons_succ]); (try clear g); intro g)
  (try (refine cmark _ ?_; (try dsimp only [List.set_cons_zero, List.set_cons_succ]); (try clear g); intro g))
  refine (qSub_x _ _ _ _ _ _ _ _ ab b a HBab.out HBb.out HBa.out E6.out _ (G.sl g (by simp) hsd) (G.sl g (by simp) htd) (G.sl g (by simp) hsb) (G.sl g (by simp) htb) (G.tab g HT.out)).mono ?_
  rintro e w1 ⟨Ak, ck, Fk, Bk, dk, Hk, rfl, hsk, htk, hn, hm⟩
  have hnnk := fun k o hk => Nat.le_trans g.chg.size (hn.new k o hk)
  have hmmk := fun k o hk => Nat.le_trans g.chg.size (hm.new k o hk)
  obtain ⟨g1, rfl⟩ := G.new2_ex _ hn hm
  clear hn hm
  (try clear g)
  revert g1
  intro g
  go_wp2_with (with_reducible refine G.any_mark _ ?_; (try generalize Array.size (World.heap (G.w _)) = bk); (try dsimp only [List.set_cons_zero, List.set_cons_succ]); (try clear g); intro g)
  (as_aux_lemma =>
  (try (refine cmark _ ?_; (try dsimp only [List.set_cons_zero, List.set_cons_succ]); (try clear g); intro g))
  refine (lsame_x _ _ _ _ _ _ _ _ ab _ (G.sl g (by simp) hsd) (G.sl g (by simp) htd) (G.sl g (by simp) hse) (G.sl g (by simp) hte)).mono ?_
  rintro e w1 ⟨rfl, hb⟩
  obtain ⟨g1, rfl⟩ := G.call_ex _ hb
  clear hb
  (try clear g)
  revert g1
  intro g
  go_wp2_with (with_reducible refine G.any_mark _ ?_; (try generalize Array.size (World.heap (G.w _)) = bk); (try dsimp only [List.set_cons_zero, List.set_cons_succ]); (try clear g); intro g)
  (try (refine cmark _ ?_; (try dsimp only [List.set_cons_zero, List.set_cons_succ]); (try clear g); intro g))
  refine (lsame_x _ _ _ _ _ _ _ _ abc _ (G.sl g (by simp) hsf) (G.sl g (by simp) htf) (G.sl g (by simp) hsj) (G.sl g (by simp) htj)).mono ?_
  rintro e w1 ⟨rfl, hb⟩
  obtain ⟨g1, rfl⟩ := G.call_ex _ hb
  clear hb
  (try clear g)
  revert g1
  intro g
  go_wp2_with (with_reducible refine G.any_mark _ ?_; (try generalize Array.size (World.heap (G.w _)) = bk); (try dsimp only [List.set_cons_zero, List.set_cons_succ]); (try clear g); intro g)
  (try (refine cmark _ ?_; (try dsimp only [List.set_cons_zero, List.set_cons_succ]); (try clear g); intro g))
  refine (lsame_x _ _ _ _ _ _ _ _ a _ (G.sl g (by simp) hsk) (G.sl g (by simp) htk) (G.sl g (by simp) hsa) (G.sl g (by simp) hta)).mono ?_
  rintro e w1 ⟨rfl, hb⟩
  obtain ⟨g1, rfl⟩ := G.call_ex _ hb
  clear hb
  (try clear g)
  revert g1
  intro g
  go_wp2_with (with_reducible refine G.any_mark _ ?_; (try generalize Array.size (World.heap (G.w _)) = bk); (try dsimp only [List.set_cons_zero, List.set_cons_succ]); (try clear g); intro g)
  (as_aux_lemma =>
  (try (refine cmark _ ?_; (try dsimp only [List.set_cons_zero, List.set_cons_succ]); (try clear g); intro g))
  refine (qMul_x _ _ _ _ _ _ _ _ a b p1 HBa.out HBb.out HBp1.out F1.out _ (G.sl g (by simp) hsa) (G.sl g (by simp) hta) (G.sl g (by simp) hsb) (G.sl g (by simp) htb) (G.tab g HT.out)).mono ?_
  rintro e w1 ⟨Al, cl, Fl, Bl, dl, Hl, rfl, hsl, htl, hn, hm⟩
  have hnnl := fun k o hk => Nat.le_trans g.chg.size (hn.new k o hk)
  have hmml := fun k o hk => Nat.le_trans g.chg.size (hm.new k o hk)
  obtain ⟨g1, rfl⟩ := G.new2_ex _ hn hm
  clear hn hm
  (try clear g)
  revert g1
  intro g
  go_wp2_with (with_reducible refine G.any_mark _ ?_; (try generalize Array.size (World.heap (G.w _)) = bk); (try dsimp only [List.set_cons_zero, List.set_cons_succ]); (try clear g); intro g)
  (try (refine cmark _ ?_; (try dsimp only [List.set_cons_zero, List.set_cons_succ]); (try clear g); intro g))
  refine (qMul_x _ _ _ _ _ _ _ _ b a p1 HBb.out HBa.out HBp1.out F2.out _ (G.sl g (by simp) hsb) (G.sl g (by simp) htb) (G.sl g (by simp) hsa) (G.sl g (by simp) hta) (G.tab g HT.out)).mono ?_
  rintro e w1 ⟨Am, cm, Fm, Bm, dm, Hm, rfl, hsm, htm, hn, hm⟩
  have hnnm := fun k o hk => Nat.le_trans g.chg.size (hn.new k o hk)
  have hmmm := fun k o hk => Nat.le_trans g.chg.size (hm.new k o hk)
  obtain ⟨g1, rfl⟩ := G.new2_ex _ hn hm
  clear hn hm
  (try clear g)
  revert g1
  intro g
  go_wp2_with (with_reducible refine G.any_mark _ ?_; (try generalize Array.size (World.heap (G.w _)) = bk); (try dsimp only [List.set_cons_zero, List.set_cons_succ]); (try clear g); intro g)
  (try (refine cmark _ ?_; (try dsimp only [List.set_cons_zero, List.set_cons_succ]); (try clear g); intro g))
  refine (qMul_x _ _ _ _ _ _ _ _ p1 c p3 HBp1.out HBc.out HBp3.out F3.out _ (G.sl g (by simp) hsl) (G.sl g (by simp) htl) (G.sl g (by simp) hsc) (G.sl g (by simp) htc) (G.tab g HT.out)).mono ?_
  rintro e w1 ⟨An, cn, Fn, Bn, dn, Hn, rfl, hsn, htn, hn, hm⟩
  have hnnn := fun k o hk => Nat.le_trans g.chg.size (hn.new k o hk)
  have hmmn := fun k o hk => Nat.le_trans g.chg.size (hm.new k o hk)
  obtain ⟨g1, rfl⟩ := G.new2_ex _ hn hm
  clear hn hm
  (try clear g)
  revert g1
  intro g
  go_wp2_with (with_reducible refine G.any_mark _ ?_; (try generalize Array.size (World.heap (G.w _)) = bk); (try dsimp only [List.set_cons_zero, List.set_cons_succ]); (try clear g); intro g)
  (as_aux_lemma =>
  (try (refine cmark _ ?_; (try dsimp only [List.set_cons_zero, List.set_cons_succ]); (try clear g); intro g))
  refine (qMul_x _ _ _ _ _ _ _ _ b c p4 HBb.out HBc.out HBp4.out F4.out _ (G.sl g (by simp) hsb) (G.sl g (by simp) htb) (G.sl g (by simp) hsc) (G.sl g (by simp) htc) (G.tab g HT.out)).mono ?_
  rintro e w1 ⟨Aoo, coo, Foo, Boo, doo, Hoo, rfl, hsoo, htoo, hn, hm⟩
  have hnnoo := fun k o hk => Nat.le_trans g.chg.size (hn.new k o hk)
  have hmmoo := fun k o hk => Nat.le_trans g.chg.size (hm.new k o hk)
  obtain ⟨g1, rfl⟩ := G.new2_ex _ hn hm
  clear hn hm
  (try clear g)
  revert g1
  intro g
  go_wp2_with (with_reducible refine G.any_mark _ ?_; (try generalize Array.size (World.heap (G.w _)) = bk); (try dsimp only [List.set_cons_zero, List.set_cons_succ]); (try clear g); intro g)
  (try (refine cmark _ ?_; (try dsimp only [List.set_cons_zero, List.set_cons_succ]); (try clear g); intro g))
  refine (qMul_x _ _ _ _ _ _ _ _ a p4 p3 HBa.out HBp4.out HBp3.out F5.out _ (G.sl g (by simp) hsa) (G.sl g (by simp) hta) (G.sl g (by simp) hsoo) (G.sl g (by simp) htoo) (G.tab g HT.out)).mono ?_
  rintro e w1 ⟨Ap, cp, Fp, Bp, dp, Hp, rfl, hsp, htp, hn, hm⟩
  have hnnp := fun k o hk => Nat.le_trans g.chg.size (hn.new k o hk)
  have hmmp := fun k o hk => Nat.le_trans g.chg.size (hm.new k o hk)
  obtain ⟨g1, rfl⟩ := G.new2_ex _ hn hm
  clear hn hm
  (try clear g)
  revert g1
  intro g
  go_wp2_with (with_reducible refine G.any_mark _ ?_; (try generalize Array.size (World.heap (G.w _)) = bk); (try dsimp only [List.set_cons_zero, List.set_cons_succ]); (try clear g); intro g)
  (as_aux_lemma =>
  (try (refine cmark _ ?_; (try dsimp only [List.set_cons_zero, List.set_cons_succ]); (try clear g); intro g))
  refine (qMul_x _ _ _ _ _ _ _ _ a bc p6 HBa.out HBbc.out HBp6.out F6.out _ (G.sl g (by simp) hsa) (G.sl g (by simp) hta) (G.sl g (by simp) hsi) (G.sl g (by simp) hti) (G.tab g HT.out)).mono ?_
  rintro e w1 ⟨Aq, cq, Fq, Bq, dq, Hq, rfl, hsq, htq, hn, hm⟩
  have hnnq := fun k o hk => Nat.le_trans g.chg.size (hn.new k o hk)
  have hmmq := fun k o hk => Nat.le_trans g.chg.size (hm.new k o hk)
  obtain ⟨g1, rfl⟩ := G.new2_ex _ hn hm
  clear hn hm
  (try clear g)
  revert g1
  intro g
  go_wp2_with (with_reducible refine G.any_mark _ ?_; (try generalize Array.size (World.heap (G.w _)) = bk); (try dsimp only [List.set_cons_zero, List.set_cons_succ]); (try clear g); intro g)
  (try (refine cmark _ ?_; (try dsimp only [List.set_cons_zero, List.set_cons_succ]); (try clear g); intro g))
  refine (qMul_x _ _ _ _ _ _ _ _ a c p7 HBa.out HBc.out HBp7.out F7.out _ (G.sl g (by simp) hsa) (G.sl g (by simp) hta) (G.sl g (by simp) hsc) (G.sl g (by simp) htc) (G.tab g HT.out)).mono ?_
  rintro e w1 ⟨Ar, cr, Fr, Br, dr, Hr, rfl, hsr, htr, hn, hm⟩
  have hnnr := fun k o hk => Nat.le_trans g.chg.size (hn.new k o hk)
  have hmmr := fun k o hk => Nat.le_trans g.chg.size (hm.new k o hk)
  obtain ⟨g1, rfl⟩ := G.new2_ex _ hn hm
  clear hn hm
  (try clear g)
  revert g1
  intro g
  go_wp2_with (with_reducible refine G.any_mark _ ?_; (try generalize Array.size (World.heap (G.w _)) = bk); (try dsimp only [List.set_cons_zero, List.set_cons_succ]); (try clear g); intro g)
  (try (refine cmark _ ?_; (try dsimp only [List.set_cons_zero, List.set_cons_succ]); (try clear g); intro g))
  refine (qAdd_x _ _ _ _ _ _ _ _ p1 p7 p6 HBp1.out HBp7.out HBp6.out F8.out _ (G.sl g (by simp) hsl) (G.sl g (by simp) htl) (G.sl g (by simp) hsr) (G.sl g (by simp) htr) (G.tab g HT.out)).mono ?_
  rintro e w1 ⟨As, cs, Fs, Bs, ds, Hs, rfl, hss, hts, hn, hm⟩
  have hnns := fun k o hk => Nat.le_trans g.chg.size (hn.new k o hk)
  have hmms := fun k o hk => Nat.le_trans g.chg.size (hm.new k o hk)
  obtain ⟨g1, rfl⟩ := G.new2_ex _ hn hm
  clear hn hm
  (try clear g)
  revert g1
  intro g
  go_wp2_with (with_reducible refine G.any_mark _ ?_; (try generalize Array.size (World.heap (G.w _)) = bk); (try dsimp only [List.set_cons_zero, List.set_cons_succ]); (try clear g); intro g)
  (as_aux_lemma =>
  (try (refine cmark _ ?_; (try dsimp only [List.set_cons_zero, List.set_cons_succ]); (try clear g); intro g))
  refine (lsame_x _ _ _ _ _ _ _ _ p1 _ (G.sl g (by simp) hsl) (G.sl g (by simp) htl) (G.sl g (by simp) hsm) (G.sl g (by simp) htm)).mono ?_
  rintro e w1 ⟨rfl, hb⟩
  obtain ⟨g1, rfl⟩ := G.call_ex _ hb
  clear hb
  (try clear g)
  revert g1
  intro g
  go_wp2_with (with_reducible refine G.any_mark _ ?_; (try generalize Array.size (World.heap (G.w _)) = bk); (try dsimp only [List.set_cons_zero, List.set_cons_succ]); (try clear g); intro g)
  (try (refine cmark _ ?_; (try dsimp only [List.set_cons_zero, List.set_cons_succ]); (try clear g); intro g))
  refine (lsame_x _ _ _ _ _ _ _ _ p3 _ (G.sl g (by simp) hsn) (G.sl g (by simp) htn) (G.sl g (by simp) hsp) (G.sl g (by simp) htp)).mono ?_
  rintro e w1 ⟨rfl, hb⟩
  obtain ⟨g1, rfl⟩ := G.call_ex _ hb
  clear hb
  (try clear g)
  revert g1
  intro g
  go_wp2_with (with_reducible refine G.any_mark _ ?_; (try generalize Array.size (World.heap (G.w _)) = bk); (try dsimp only [List.set_cons_zero, List.set_cons_succ]); (try clear g); intro g)
  (try (refine cmark _ ?_; (try dsimp only [List.set_cons_zero, List.set_cons_succ]); (try clear g); intro g))
  refine (lsame_x _ _ _ _ _ _ _ _ p6 _ (G.sl g (by simp) hsq) (G.sl g (by simp) htq) (G.sl g (by simp) hss) (G.sl g (by simp) hts)).mono ?_
  rintro e w1 ⟨rfl, hb⟩
  obtain ⟨g1, rfl⟩ := G.call_ex _ hb
  clear hb
  (try clear g)
  revert g1
  intro g
  go_wp2_with (with_reducible refine G.any_mark _ ?_; (try generalize Array.size (World.heap (G.w _)) = bk); (try dsimp only [List.set_cons_zero, List.set_cons_succ]); (try clear g); intro g)
  (as_aux_lemma =>
  (try (refine cmark _ ?_; (try dsimp only [List.set_cons_zero, List.set_cons_succ]); (try clear g); intro g))
  refine (rcheck _ _ _ _ _ _ _ _ (G.sl g (by simp) hsn) (G.sl g (by simp) htn) (G.tab g HT.out)).mono ?_
  rw [rchk_x HBp3.out]
  rintro e w1 ⟨rfl, hb⟩
  obtain ⟨g1, rfl⟩ := G.call_ex _ hb
  clear hb
  (try clear g)
  revert g1
  intro g
  go_wp2_with (with_reducible refine G.any_mark _ ?_; (try generalize Array.size (World.heap (G.w _)) = bk); (try dsimp only [List.set_cons_zero, List.set_cons_succ]); (try clear g); intro g)
  (try (refine cmark _ ?_; (try dsimp only [List.set_cons_zero, List.set_cons_succ]); (try clear g); intro g))
  refine (rcheck _ _ _ _ _ _ _ _ (G.sl g (by simp) hsf) (G.sl g (by simp) htf) (G.tab g HT.out)).mono ?_
  rw [rchk_x HBabc.out]
  rintro e w1 ⟨rfl, hb⟩
  obtain ⟨g1, rfl⟩ := G.call_ex _ hb
  clear hb
  (try clear g)
  revert g1
  intro g
  go_wp2_with (with_reducible refine G.any_mark _ ?_; (try generalize Array.size (World.heap (G.w _)) = bk); (try dsimp only [List.set_cons_zero, List.set_cons_succ]); (try clear g); intro g)
  (as_aux_lemma =>
  by_cases h0 : rn b = 0
  · have hl0 : ((((limbs 0).length : Nat) : Int) == 0) = true := by rw [limbs_len0]; rfl
    (try (refine cmark _ ?_; (try dsimp only [List.set_cons_zero, List.set_cons_succ]); (try clear g); intro g))
    refine (qDiv_z _ _ _ _ _ _ _ _ p1 b HBp1.out HBb.out h0 _ (G.sl g (by simp) hsl) (G.sl g (by simp) htl) (G.sl g (by simp) hsb) (G.sl g (by simp) htb) (G.tab g HT.out)).mono ?_
    rintro e w1 ⟨At, ct, Ft, Bt, dt, Ht, rfl, hst, htt, hn, hm⟩
    have hnnt := fun k o hk => Nat.le_trans g.chg.size (hn.new k o hk)
    have hmmt := fun k o hk => Nat.le_trans g.chg.size (hm.new k o hk)
    obtain ⟨g1, rfl⟩ := G.new2_ex _ hn hm
    clear hn hm
    (try clear g)
    revert g1
    intro g
    go_wp2_with (with_reducible refine G.any_mark _ ?_; (try generalize Array.size (World.heap (G.w _)) = bk); (try dsimp only [List.set_cons_zero, List.set_cons_succ]); (try clear g); intro g)
    go_ret
    exact ⟨rfl, G.below _⟩
  · have hl0 : (((limbs (rn b)).length : Int) == 0) = false := by
      have := llen_ne h0
      rw [beq_eq_false_iff_ne]; omega
    (try (refine cmark _ ?_; (try dsimp only [List.set_cons_zero, List.set_cons_succ]); (try clear g); intro g))
    refine (qDiv_x _ _ _ _ _ _ _ _ p1 b a HBp1.out HBb.out HBa.out h0 (FQ.out h0) _ (G.sl g (by simp) hsl) (G.sl g (by simp) htl) (G.sl g (by simp) hsb) (G.sl g (by simp) htb) (G.tab g HT.out)).mono ?_
    rintro e w1 ⟨At, ct, Ft, Bt, dt, Ht, rfl, hst, htt, hn, hm⟩
    have hnnt := fun k o hk => Nat.le_trans g.chg.size (hn.new k o hk)
    have hmmt := fun k o hk => Nat.le_trans g.chg.size (hm.new k o hk)
    obtain ⟨g1, rfl⟩ := G.new2_ex _ hn hm
    clear hn hm
    (try clear g)
    revert g1
    intro g
    go_wp2_with (with_reducible refine G.any_mark _ ?_; (try generalize Array.size (World.heap (G.w _)) = bk); (try dsimp only [List.set_cons_zero, List.set_cons_succ]); (try clear g); intro g)
    (try (refine cmark _ ?_; (try dsimp only [List.set_cons_zero, List.set_cons_succ]); (try clear g); intro g))
    refine (lsame_x _ _ _ _ _ _ _ _ a _ (G.sl g (by simp) hst) (G.sl g (by simp) htt) (G.sl g (by simp) hsa) (G.sl g (by simp) hta)).mono ?_
    rintro e w1 ⟨rfl, hb⟩
    obtain ⟨g1, rfl⟩ := G.call_ex _ hb
    clear hb
    (try clear g)
    revert g1
    intro g
    go_wp2_with (with_reducible refine G.any_mark _ ?_; (try generalize Array.size (World.heap (G.w _)) = bk); (try dsimp only [List.set_cons_zero, List.set_cons_succ]); (try clear g); intro g)
    go_ret
    exact ⟨rfl, G.below _⟩)))))))))
end Go.Proofs.YtjdnpkicdmapnaaDoor
