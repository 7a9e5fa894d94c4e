/- Plain facts and contracts of functions of the program, out of walks. Their conditions stand ahead of each. -/
import Derived.Test.YtjdnpkicdmapnaaDoorRt3
import Derived.Test.YtjdnpkicdmapnaaDoorRt49
import Derived.Below
import Derived.BigQuiet
import Derived.Deep.Draws
import Derived.Deep.LoopGhost
import Derived.Deep.QuietTactic
import Derived.Deep.RegionHeld3
import Derived.Deep.RegionLaw
import Derived.Defers
import Derived.Laws.BytesString
import Derived.Laws.Cells
import Derived.Laws.Concat
import Derived.Laws.CopyOwn
import Derived.Laws.CopyRow
import Derived.Laws.NewBlocks
import Derived.Laws.OwnMore
import Derived.Laws.Pointers
import Derived.Laws.Rows
import Derived.Lib.BitFns
import Derived.Lib.Hide
import Derived.Lib.ItoaNum
import Derived.Lib.TrailingZeros
import Derived.LoopIn
import Derived.LoopNIn
import Derived.Maps.AppendAt
import Derived.OrdersIn
import Derived.OwnWalk
import Derived.OwnWalkIn
import Derived.RangeFuncBound
import Derived.RangeFuncBox
import Derived.RangeFuncCalls
import Derived.RangeFuncLeaves
import Derived.RangeFuncNested
import Derived.RowKit3
import Derived.Shelf.Abstract
import Derived.Shelf.RegionOpen
import Derived.Shelf.Spec.TrailingZeros
import Derived.StillTactics
import Derived.StillTailTactics
import Derived.TacticsInMore
import Derived.Test.YtjdnpkicdmapnaaDoorProg
import Derived.WalkKit
import Derived.WalkLawsBesides
import Derived.WalkMore
import Derived.WalkSpells
set_option linter.unusedVariables false
set_option linter.unusedSimpArgs false
set_option exponentiation.threshold 10000
namespace Go.Proofs.YtjdnpkicdmapnaaDoor
open Go.RowKit GW NL
theorem pick_bool {P : Program} {f : FuncId} {v : Value} {s : Bool} {w : World} {R : Ending → World → Prop} (h : ∀ s : Bool, Calls P f #[v, .bool s] w R) : Calls P f #[v, .bool s] w R := h s
theorem llen_ne {v : Nat} (h : v ≠ 0) : 0 < (limbs v).length := by
  rcases Nat.eq_zero_or_pos (limbs v).length with h1 | h1
  · exact absurd (limbs_nil.1 (List.eq_nil_of_length_eq_zero h1)) h
  · exact h1
theorem bd_lit (s : Bool) {n d : Nat} (hd : d ≠ 0) (h1 : n < 2 ^ 64) (h2 : d < 2 ^ 64) : Bd 8192 (frac s n d) := (Bd.frac s hd h1 h2).mono (by decide)
theorem dec_one {d : Nat} (h : d < 10) (h0 : d ≠ 0) : dec d = [48 + d] := by
  unfold dec
  rw [if_neg h0, digs_pos h0, show d / 10 = 0 by omega, show d % 10 = d by omega, digs_zero]
  rfl
theorem qtext_lit : qtext (rneg (frac true 3 2)) (rn (frac true 3 2)) (frac true 3 2).den = { data := #[45, 51, 47, 50] } := by
  rw [show rneg (frac true 3 2) = true by decide +kernel, show rn (frac true 3 2) = 3 by decide +kernel, show (frac true 3 2).den = 2 by decide +kernel]
  unfold qtext
  rw [dec_one (by decide) (by decide), dec_one (by decide) (by decide)]
  rfl
set_option maxRecDepth 20000 in
set_option maxHeartbeats 2000000 in
theorem llives_x (w : World) (hT : Tab w) : Calls Tryd.prog 7 #[] w fun e w' => e = .returned (.bool true) ∧ Below w.heap.size w w' := by
  refine calls_b fun g => ?_
  have hq := qtext_lit
  obtain ⟨a, ha⟩ : ∃ a, frac true 3 2 = a := ⟨_, rfl⟩
  obtain ⟨b, hb⟩ : ∃ b, frac false 1 2 = b := ⟨_, rfl⟩
  obtain ⟨c, hc⟩ : ∃ c, frac false 1 3 = c := ⟨_, rfl⟩
  obtain ⟨d, hd⟩ : ∃ d, frac false 5 6 = d := ⟨_, rfl⟩
  have E1 : Hid (frac (decide ((6 : Int) < 0) != decide ((-4 : Int) < 0)) (6 : Int).natAbs (-4 : Int).natAbs = a) := Lib.hid (by rw [← ha]; decide +kernel)
  have E2 : Hid (frac (decide ((1 : Int) < 0) != decide ((2 : Int) < 0)) (1 : Int).natAbs (2 : Int).natAbs = b) := Lib.hid (by rw [← hb]; decide +kernel)
  have E3 : Hid (frac (decide ((1 : Int) < 0) != decide ((3 : Int) < 0)) (1 : Int).natAbs (3 : Int).natAbs = c) := Lib.hid (by rw [← hc]; decide +kernel)
  have E4 : Hid (frac (decide ((-3 : Int) < 0) != decide ((2 : Int) < 0)) (-3 : Int).natAbs (2 : Int).natAbs = a) := Lib.hid (by rw [← ha]; decide +kernel)
  have E5 : Hid (frac (decide ((5 : Int) < 0) != decide ((6 : Int) < 0)) (5 : Int).natAbs (6 : Int).natAbs = d) := Lib.hid (by rw [← hd]; decide +kernel)
  have E6 : Hid (b + c = d) := Lib.hid (by rw [← hb, ← hc, ← hd]; decide +kernel)
  have HBa : Hid (Bd 8192 a) := Lib.hid (by rw [← ha]; exact bd_lit _ (by decide) (by decide) (by decide))
  have HBb : Hid (Bd 8192 b) := Lib.hid (by rw [← hb]; exact bd_lit _ (by decide) (by decide) (by decide))
  have HBc : Hid (Bd 8192 c) := Lib.hid (by rw [← hc]; exact bd_lit _ (by decide) (by decide) (by decide))
  have HBd : Hid (Bd 8192 d) := Lib.hid (by rw [← hd]; exact bd_lit _ (by decide) (by decide) (by decide))
  rw [ha] at hq
  have HQ := Lib.hid hq
  have HT := Lib.hid hT
  clear ha hb hc hd hq hT
  go_enter Tryd.func7, Tryd.ntmps7
  go_wp2_with (with_reducible refine G.any_mark _ ?_; (try generalize Array.size (World.heap (G.w _)) = bk); (try dsimp only [List.set_cons_zero, List.set_cons_succ]); (try clear g); intro g)
  (try (refine cmark _ ?_; (try dsimp only [List.set_cons_zero, List.set_cons_succ]); (try clear g); intro g))
  refine (qOf_x 6 (-4) a (by decide) HBa.out E1.out (by decide) (by decide) (by decide) (by decide) _ (G.tab g HT.out)).mono ?_
  rintro e w1 ⟨Aa, ca, Fa, Ba, da, Ha, rfl, hsa, hta, hn, hm⟩
  have hnna := fun k o hk => Nat.le_trans g.chg.size (hn.new k o hk)
  have hmma := fun k o hk => Nat.le_trans g.chg.size (hm.new k o hk)
  obtain ⟨g1, rfl⟩ := G.new2_ex _ hn hm
  clear hn hm
  (try clear g)
  revert g1
  intro g
  go_wp2_with (with_reducible refine G.any_mark _ ?_; (try generalize Array.size (World.heap (G.w _)) = bk); (try dsimp only [List.set_cons_zero, List.set_cons_succ]); (try clear g); intro g)
  (try (refine cmark _ ?_; (try dsimp only [List.set_cons_zero, List.set_cons_succ]); (try clear g); intro g))
  refine (lof_x (1) (2) b (by decide) E2.out (by decide) (by decide) (by decide) (by decide) _).mono ?_
  rintro e w1 ⟨Ab, cb, Fb, Bb, db, Hb, rfl, hsb, htb, hn, hm⟩
  have hnnb := fun k o hk => Nat.le_trans g.chg.size (hn.new k o hk)
  have hmmb := fun k o hk => Nat.le_trans g.chg.size (hm.new k o hk)
  obtain ⟨g1, rfl⟩ := G.new2_ex _ hn hm
  clear hn hm
  (try clear g)
  revert g1
  intro g
  go_wp2_with (with_reducible refine G.any_mark _ ?_; (try generalize Array.size (World.heap (G.w _)) = bk); (try dsimp only [List.set_cons_zero, List.set_cons_succ]); (try clear g); intro g)
  (try (refine cmark _ ?_; (try dsimp only [List.set_cons_zero, List.set_cons_succ]); (try clear g); intro g))
  refine (lof_x (1) (3) c (by decide) E3.out (by decide) (by decide) (by decide) (by decide) _).mono ?_
  rintro e w1 ⟨Ac, cc, Fc, Bc, dc, Hc, rfl, hsc, htc, hn, hm⟩
  have hnnc := fun k o hk => Nat.le_trans g.chg.size (hn.new k o hk)
  have hmmc := fun k o hk => Nat.le_trans g.chg.size (hm.new k o hk)
  obtain ⟨g1, rfl⟩ := G.new2_ex _ hn hm
  clear hn hm
  (try clear g)
  revert g1
  intro g
  go_wp2_with (with_reducible refine G.any_mark _ ?_; (try generalize Array.size (World.heap (G.w _)) = bk); (try dsimp only [List.set_cons_zero, List.set_cons_succ]); (try clear g); intro g)
  (try (refine cmark _ ?_; (try dsimp only [List.set_cons_zero, List.set_cons_succ]); (try clear g); intro g))
  refine (qAdd_x _ _ _ _ _ _ _ _ b c d HBb.out HBc.out HBd.out E6.out _ (G.sl g (by simp) hsb) (G.sl g (by simp) htb) (G.sl g (by simp) hsc) (G.sl g (by simp) htc) (G.tab g HT.out)).mono ?_
  rintro e w1 ⟨Ad, cd, Fd, Bd, dd, Hd, rfl, hsd, htd, hn, hm⟩
  have hnnd := fun k o hk => Nat.le_trans g.chg.size (hn.new k o hk)
  have hmmd := fun k o hk => Nat.le_trans g.chg.size (hm.new k o hk)
  obtain ⟨g1, rfl⟩ := G.new2_ex _ hn hm
  clear hn hm
  (try clear g)
  revert g1
  intro g
  go_wp2_with (with_reducible refine G.any_mark _ ?_; (try generalize Array.size (World.heap (G.w _)) = bk); (try dsimp only [List.set_cons_zero, List.set_cons_succ]); (try clear g); intro g)
  (try (refine cmark _ ?_; (try dsimp only [List.set_cons_zero, List.set_cons_succ]); (try clear g); intro g))
  refine (lof_x (-3) (2) a (by decide) E4.out (by decide) (by decide) (by decide) (by decide) _).mono ?_
  rintro e w1 ⟨Ae, ce, Fe, Be, de, He, rfl, hse, hte, hn, hm⟩
  have hnne := fun k o hk => Nat.le_trans g.chg.size (hn.new k o hk)
  have hmme := fun k o hk => Nat.le_trans g.chg.size (hm.new k o hk)
  obtain ⟨g1, rfl⟩ := G.new2_ex _ hn hm
  clear hn hm
  (try clear g)
  revert g1
  intro g
  go_wp2_with (with_reducible refine G.any_mark _ ?_; (try generalize Array.size (World.heap (G.w _)) = bk); (try dsimp only [List.set_cons_zero, List.set_cons_succ]); (try clear g); intro g)
  (try (refine cmark _ ?_; (try dsimp only [List.set_cons_zero, List.set_cons_succ]); (try clear g); intro g))
  refine (qText_x _ _ _ _ a HBa.out _ (G.sl g (by simp) hse) (G.sl g (by simp) hte) (G.tab g HT.out)).mono ?_
  rw [HQ.out]
  rintro e w1 ⟨rfl, hb⟩
  obtain ⟨g1, rfl⟩ := G.call_ex _ hb
  clear hb
  (try clear g)
  revert g1
  intro g
  go_wp2_with (with_reducible refine G.any_mark _ ?_; (try generalize Array.size (World.heap (G.w _)) = bk); (try dsimp only [List.set_cons_zero, List.set_cons_succ]); (try clear g); intro g)
  (try (refine cmark _ ?_; (try dsimp only [List.set_cons_zero, List.set_cons_succ]); (try clear g); intro g))
  refine (lis_x _ _ _ _ (-3) 2 a (by decide) E4.out (by decide) (by decide) (by decide) (by decide) _ (G.sl g (by simp) hsa) (G.sl g (by simp) hta)).mono ?_
  rintro e w1 ⟨rfl, hb⟩
  obtain ⟨g1, rfl⟩ := G.call_ex _ hb
  clear hb
  (try clear g)
  revert g1
  intro g
  go_wp2_with (with_reducible refine G.any_mark _ ?_; (try generalize Array.size (World.heap (G.w _)) = bk); (try dsimp only [List.set_cons_zero, List.set_cons_succ]); (try clear g); intro g)
  (try (refine cmark _ ?_; (try dsimp only [List.set_cons_zero, List.set_cons_succ]); (try clear g); intro g))
  refine (lis_x _ _ _ _ 5 6 d (by decide) E5.out (by decide) (by decide) (by decide) (by decide) _ (G.sl g (by simp) hsd) (G.sl g (by simp) htd)).mono ?_
  rintro e w1 ⟨rfl, hb⟩
  obtain ⟨g1, rfl⟩ := G.call_ex _ hb
  clear hb
  (try clear g)
  revert g1
  intro g
  go_wp2_with (with_reducible refine G.any_mark _ ?_; (try generalize Array.size (World.heap (G.w _)) = bk); (try dsimp only [List.set_cons_zero, List.set_cons_succ]); (try clear g); intro g)
  go_ret
  exact ⟨rfl, G.below _⟩
end Go.Proofs.YtjdnpkicdmapnaaDoor
namespace Go.Proofs.YtjdnpkicdmapnaaDoor
open Go.RowKit GW NL
set_option maxRecDepth 20000 in
set_option maxHeartbeats 8000000 in
theorem order_walk (A1 A2 A3 : Option Addr) (c1 c2 c3 : Nat) (l1 l2 l3 : List Nat) (n : Int) (w : World) (h1 : SlW w A1 c1 l1) (h2 : SlW w A2 c2 l2) (h3 : SlW w A3 c3 l3) (hT : Tab w) :
    Calls Tryd.prog 4 #[.slice A1 l1.length c1, .slice A2 l2.length c2, .slice A3 l3.length c3, .int .i64 n] w fun e w' => e = .returned (.bool true) ∧ Below w.heap.size w w' := by
  refine calls_b fun g => ?_
  have CL := Lib.hid llives_x
  have CV1 := Lib.hid (fun s w h => lvalid_x A1 c1 l1 s w h)
  have CV2 := Lib.hid (fun s w h => lvalid_x A2 c2 l2 s w h)
  have CV3 := Lib.hid (fun s w h => lvalid_x A3 c3 l3 s w h)
  unfold RNf at CV1 CV2 CV3
  have HO1 := Lib.hid h1.ok
  have HO2 := Lib.hid h2.ok
  have HO3 := Lib.hid h3.ok
  have H1 := Lib.hid h1
  have H2 := Lib.hid h2
  have H3 := Lib.hid h3
  have HT := Lib.hid hT
  clear h1 h2 h3 hT
  generalize l1.length = n1 at *
  generalize l2.length = n2 at *
  generalize l3.length = n3 at *
  go_enter Tryd.func4, Tryd.ntmps4
  go_wp2_with (with_reducible refine G.any_mark _ ?_; (try generalize Array.size (World.heap (G.w _)) = bk); (try dsimp only [List.set_cons_zero, List.set_cons_succ]); (try clear g); intro g)
  refine (CL.out _ (G.tab g HT.out)).mono ?_
  rintro e w1 ⟨rfl, hb⟩
  obtain ⟨g1, rfl⟩ := G.call_ex _ hb
  clear hb
  (try clear g)
  revert g1
  intro g
  go_wp2_with (with_reducible refine G.any_mark _ ?_; (try generalize Array.size (World.heap (G.w _)) = bk); (try dsimp only [List.set_cons_zero, List.set_cons_succ]); (try clear g); intro g)
  refine pick_bool ?_
  intro sa
  (try (refine cmark _ ?_; (try dsimp only [List.set_cons_zero, List.set_cons_succ]); (try clear g); intro g))
  refine (CV1.out sa _ (G.sl g (by simp) H1.out)).mono ?_
  rintro e w1 ⟨Aa, ca, Fa, Ba, da, Ha, rfl, hsa, hta, hn, hm⟩
  have hnna := fun k o hk => Nat.le_trans g.chg.size (hn.new k o hk)
  have hmma := fun k o hk => Nat.le_trans g.chg.size (hm.new k o hk)
  obtain ⟨g1, rfl⟩ := G.new2_ex _ hn hm
  clear hn hm
  (try clear g)
  revert g1
  intro g
  go_wp2_with (with_reducible refine G.any_mark _ ?_; (try generalize Array.size (World.heap (G.w _)) = bk); (try dsimp only [List.set_cons_zero, List.set_cons_succ]); (try clear g); intro g)
  refine pick_bool ?_
  intro sb
  (try (refine cmark _ ?_; (try dsimp only [List.set_cons_zero, List.set_cons_succ]); (try clear g); intro g))
  refine (CV2.out sb _ (G.sl g (by simp) H2.out)).mono ?_
  rintro e w1 ⟨Ab, cb, Fb, Bb, db, Hb, rfl, hsb, htb, hn, hm⟩
  have hnnb := fun k o hk => Nat.le_trans g.chg.size (hn.new k o hk)
  have hmmb := fun k o hk => Nat.le_trans g.chg.size (hm.new k o hk)
  obtain ⟨g1, rfl⟩ := G.new2_ex _ hn hm
  clear hn hm
  (try clear g)
  revert g1
  intro g
  go_wp2_with (with_reducible refine G.any_mark _ ?_; (try generalize Array.size (World.heap (G.w _)) = bk); (try dsimp only [List.set_cons_zero, List.set_cons_succ]); (try clear g); intro g)
  refine pick_bool ?_
  intro sc
  (try (refine cmark _ ?_; (try dsimp only [List.set_cons_zero, List.set_cons_succ]); (try clear g); intro g))
  refine (CV3.out sc _ (G.sl g (by simp) H3.out)).mono ?_
  rintro e w1 ⟨Ac, cc, Fc, Bc, dc, Hc, rfl, hsc, htc, hn, hm⟩
  have hnnc := fun k o hk => Nat.le_trans g.chg.size (hn.new k o hk)
  have hmmc := fun k o hk => Nat.le_trans g.chg.size (hm.new k o hk)
  obtain ⟨g1, rfl⟩ := G.new2_ex _ hn hm
  clear hn hm
  (try clear g)
  revert g1
  intro g
  go_wp2_with (with_reducible refine G.any_mark _ ?_; (try generalize Array.size (World.heap (G.w _)) = bk); (try dsimp only [List.set_cons_zero, List.set_cons_succ]); (try clear g); intro g)
  obtain ⟨a, ha, hba⟩ : ∃ a, vq sa l1 = a ∧ Bd 288 a := ⟨_, rfl, vq_bd _ HO1.out⟩
  obtain ⟨b, hb, hbb⟩ : ∃ b, vq sb l2 = b ∧ Bd 288 b := ⟨_, rfl, vq_bd _ HO2.out⟩
  obtain ⟨c, hc, hbc⟩ : ∃ c, vq sc l3 = c ∧ Bd 288 c := ⟨_, rfl, vq_bd _ HO3.out⟩
  rw [ha] at hsa hta ⊢
  rw [hb] at hsb htb ⊢
  rw [hc] at hsc htc ⊢
  clear ha hb hc CV1 CV2 CV3 CL HO1 HO2 HO3 H1 H2 H3
  have q2 := sgz_swap a b
  have q3 := sgz_shift a b c
  have q4 := sgz_scale a b c
  obtain ⟨z2, Z2⟩ : ∃ z, sgz (b - a) = z := ⟨_, rfl⟩
  obtain ⟨z1, Z1⟩ : ∃ z, sgz (a - b) = z := ⟨_, rfl⟩
  rw [Z2, Z1] at q2
  rw [Z1] at q3
  rw [Z1] at q4
  obtain ⟨d, e1⟩ : ∃ x, a - b = x := ⟨_, rfl⟩
  obtain ⟨x, e2⟩ : ∃ x, a + c = x := ⟨_, rfl⟩
  obtain ⟨y, e3⟩ : ∃ x, b + c = x := ⟨_, rfl⟩
  obtain ⟨u, f1⟩ : ∃ x, a * c = x := ⟨_, rfl⟩
  obtain ⟨v, f2⟩ : ∃ x, b * c = x := ⟨_, rfl⟩
  rw [e2, e3] at q3
  rw [f1, f2] at q4
  obtain ⟨z4, Z4⟩ : ∃ z, sgz (u - v) = z := ⟨_, rfl⟩
  rw [Z4] at q4
  have hd : Bd 577 d := by rw [← e1]; exact hba.sub hbb
  have hx : Bd 577 x := by rw [← e2]; exact hba.add hbc
  have hy : Bd 577 y := by rw [← e3]; exact hbb.add hbc
  have hu : Bd 576 u := by rw [← f1]; exact hba.mul hbc
  have hv : Bd 576 v := by rw [← f2]; exact hbb.mul hbc
  have HBa := Lib.hid (hba.mono (show 288 ≤ 8192 by decide))
  have HBb := Lib.hid (hbb.mono (show 288 ≤ 8192 by decide))
  have HBc := Lib.hid (hbc.mono (show 288 ≤ 8192 by decide))
  have HBd := Lib.hid (hd.mono (show 577 ≤ 8192 by decide))
  have HBx := Lib.hid (hx.mono (show 577 ≤ 8192 by decide))
  have HBy := Lib.hid (hy.mono (show 577 ≤ 8192 by decide))
  have HBu := Lib.hid (hu.mono (show 576 ≤ 8192 by decide))
  have HBv := Lib.hid (hv.mono (show 576 ≤ 8192 by decide))
  have HZ2 := Lib.hid Z2
  have HZ4 := Lib.hid Z4
  have HZ3 := Lib.hid q3
  have HZ1 : Hid (sgz (a - b) = z1) := Lib.hid (by rw [e1]; rw [e1] at Z1; exact Z1)
  have HS := Lib.hid (And.intro (show sgz d = z1 by rw [← e1]; exact HZ1.out) (And.intro q2 q4))
  have E1 := Lib.hid e1
  have E2 := Lib.hid e2
  have E3 := Lib.hid e3
  have F1 := Lib.hid f1
  have F2 := Lib.hid f2
  clear e1 e2 e3 f1 f2 hba hbb hbc hd hx hy hu hv Z1 Z2 Z4 q2 q3 q4
  (try (refine cmark _ ?_; (try dsimp only [List.set_cons_zero, List.set_cons_succ]); (try clear g); intro g))
  refine (qCmp_x _ _ _ _ _ _ _ _ a b z1 HBa.out HBb.out HZ1.out _ (G.sl g (by simp) hsa) (G.sl g (by simp) hta) (G.sl g (by simp) hsb) (G.sl g (by simp) htb) (G.tab g HT.out)).mono ?_
  rintro e w1 ⟨rfl, hb⟩
  obtain ⟨g1, rfl⟩ := G.call_ex _ hb
  clear hb
  (try clear g)
  revert g1
  intro g
  go_wp2_with (with_reducible refine G.any_mark _ ?_; (try generalize Array.size (World.heap (G.w _)) = bk); (try dsimp only [List.set_cons_zero, List.set_cons_succ]); (try clear g); intro g)
  (try (refine cmark _ ?_; (try dsimp only [List.set_cons_zero, List.set_cons_succ]); (try clear g); intro g))
  refine (qCmp_x _ _ _ _ _ _ _ _ b a z2 HBb.out HBa.out HZ2.out _ (G.sl g (by simp) hsb) (G.sl g (by simp) htb) (G.sl g (by simp) hsa) (G.sl g (by simp) hta) (G.tab g HT.out)).mono ?_
  rintro e w1 ⟨rfl, hb⟩
  obtain ⟨g1, rfl⟩ := G.call_ex _ hb
  clear hb
  (try clear g)
  revert g1
  intro g
  go_wp2_with (with_reducible refine G.any_mark _ ?_; (try generalize Array.size (World.heap (G.w _)) = bk); (try dsimp only [List.set_cons_zero, List.set_cons_succ]); (try clear g); intro g)
  (try (refine cmark _ ?_; (try dsimp only [List.set_cons_zero, List.set_cons_succ]); (try clear g); intro g))
  refine (qSub_x _ _ _ _ _ _ _ _ a b d HBa.out HBb.out HBd.out E1.out _ (G.sl g (by simp) hsa) (G.sl g (by simp) hta) (G.sl g (by simp) hsb) (G.sl g (by simp) htb) (G.tab g HT.out)).mono ?_
  rintro e w1 ⟨Ad, cd, Fd, Bd, dd, Hd, rfl, hsd, htd, hn, hm⟩
  have hnnd := fun k o hk => Nat.le_trans g.chg.size (hn.new k o hk)
  have hmmd := fun k o hk => Nat.le_trans g.chg.size (hm.new k o hk)
  obtain ⟨g1, rfl⟩ := G.new2_ex _ hn hm
  clear hn hm
  (try clear g)
  revert g1
  intro g
  go_wp2_with (with_reducible refine G.any_mark _ ?_; (try generalize Array.size (World.heap (G.w _)) = bk); (try dsimp only [List.set_cons_zero, List.set_cons_succ]); (try clear g); intro g)
  (try (refine cmark _ ?_; (try dsimp only [List.set_cons_zero, List.set_cons_succ]); (try clear g); intro g))
  refine (qAdd_x _ _ _ _ _ _ _ _ a c x HBa.out HBc.out HBx.out E2.out _ (G.sl g (by simp) hsa) (G.sl g (by simp) hta) (G.sl g (by simp) hsc) (G.sl g (by simp) htc) (G.tab g HT.out)).mono ?_
  rintro e w1 ⟨Ae, ce, Fe, Be, de, He, rfl, hse, hte, hn, hm⟩
  have hnne := fun k o hk => Nat.le_trans g.chg.size (hn.new k o hk)
  have hmme := fun k o hk => Nat.le_trans g.chg.size (hm.new k o hk)
  obtain ⟨g1, rfl⟩ := G.new2_ex _ hn hm
  clear hn hm
  (try clear g)
  revert g1
  intro g
  go_wp2_with (with_reducible refine G.any_mark _ ?_; (try generalize Array.size (World.heap (G.w _)) = bk); (try dsimp only [List.set_cons_zero, List.set_cons_succ]); (try clear g); intro g)
  (try (refine cmark _ ?_; (try dsimp only [List.set_cons_zero, List.set_cons_succ]); (try clear g); intro g))
  refine (qAdd_x _ _ _ _ _ _ _ _ b c y HBb.out HBc.out HBy.out E3.out _ (G.sl g (by simp) hsb) (G.sl g (by simp) htb) (G.sl g (by simp) hsc) (G.sl g (by simp) htc) (G.tab g HT.out)).mono ?_
  rintro e w1 ⟨Af, cf, Ff, Bf, df, Hf, rfl, hsf, htf, hn, hm⟩
  have hnnf := fun k o hk => Nat.le_trans g.chg.size (hn.new k o hk)
  have hmmf := fun k o hk => Nat.le_trans g.chg.size (hm.new k o hk)
  obtain ⟨g1, rfl⟩ := G.new2_ex _ hn hm
  clear hn hm
  (try clear g)
  revert g1
  intro g
  go_wp2_with (with_reducible refine G.any_mark _ ?_; (try generalize Array.size (World.heap (G.w _)) = bk); (try dsimp only [List.set_cons_zero, List.set_cons_succ]); (try clear g); intro g)
  (try (refine cmark _ ?_; (try dsimp only [List.set_cons_zero, List.set_cons_succ]); (try clear g); intro g))
  refine (qCmp_x _ _ _ _ _ _ _ _ x y z1 HBx.out HBy.out HZ3.out _ (G.sl g (by simp) hse) (G.sl g (by simp) hte) (G.sl g (by simp) hsf) (G.sl g (by simp) htf) (G.tab g HT.out)).mono ?_
  rintro e w1 ⟨rfl, hb⟩
  obtain ⟨g1, rfl⟩ := G.call_ex _ hb
  clear hb
  (try clear g)
  revert g1
  intro g
  go_wp2_with (with_reducible refine G.any_mark _ ?_; (try generalize Array.size (World.heap (G.w _)) = bk); (try dsimp only [List.set_cons_zero, List.set_cons_succ]); (try clear g); intro g)
  (try (refine cmark _ ?_; (try dsimp only [List.set_cons_zero, List.set_cons_succ]); (try clear g); intro g))
  refine (qMul_x _ _ _ _ _ _ _ _ a c u HBa.out HBc.out HBu.out F1.out _ (G.sl g (by simp) hsa) (G.sl g (by simp) hta) (G.sl g (by simp) hsc) (G.sl g (by simp) htc) (G.tab g HT.out)).mono ?_
  rintro e w1 ⟨Ai, ci, Fi, Bi, di, Hi, rfl, hsi, hti, hn, hm⟩
  have hnni := fun k o hk => Nat.le_trans g.chg.size (hn.new k o hk)
  have hmmi := fun k o hk => Nat.le_trans g.chg.size (hm.new k o hk)
  obtain ⟨g1, rfl⟩ := G.new2_ex _ hn hm
  clear hn hm
  (try clear g)
  revert g1
  intro g
  go_wp2_with (with_reducible refine G.any_mark _ ?_; (try generalize Array.size (World.heap (G.w _)) = bk); (try dsimp only [List.set_cons_zero, List.set_cons_succ]); (try clear g); intro g)
  (try (refine cmark _ ?_; (try dsimp only [List.set_cons_zero, List.set_cons_succ]); (try clear g); intro g))
  refine (qMul_x _ _ _ _ _ _ _ _ b c v HBb.out HBc.out HBv.out F2.out _ (G.sl g (by simp) hsb) (G.sl g (by simp) htb) (G.sl g (by simp) hsc) (G.sl g (by simp) htc) (G.tab g HT.out)).mono ?_
  rintro e w1 ⟨Aj, cj, Fj, Bj, dj, Hj, rfl, hsj, htj, hn, hm⟩
  have hnnj := fun k o hk => Nat.le_trans g.chg.size (hn.new k o hk)
  have hmmj := fun k o hk => Nat.le_trans g.chg.size (hm.new k o hk)
  obtain ⟨g1, rfl⟩ := G.new2_ex _ hn hm
  clear hn hm
  (try clear g)
  revert g1
  intro g
  go_wp2_with (with_reducible refine G.any_mark _ ?_; (try generalize Array.size (World.heap (G.w _)) = bk); (try dsimp only [List.set_cons_zero, List.set_cons_succ]); (try clear g); intro g)
  (try (refine cmark _ ?_; (try dsimp only [List.set_cons_zero, List.set_cons_succ]); (try clear g); intro g))
  refine (qCmp_x _ _ _ _ _ _ _ _ u v z4 HBu.out HBv.out HZ4.out _ (G.sl g (by simp) hsi) (G.sl g (by simp) hti) (G.sl g (by simp) hsj) (G.sl g (by simp) htj) (G.tab g HT.out)).mono ?_
  rintro e w1 ⟨rfl, hb⟩
  obtain ⟨g1, rfl⟩ := G.call_ex _ hb
  clear hb
  (try clear g)
  revert g1
  intro g
  obtain ⟨s1, s2, s4⟩ := HS.out
  clear HS HZ1 HZ2 HZ3 HZ4 E1 E2 E3 F1 F2
  rcases sgz_cases d with ⟨-, t1, t2, t3⟩ | ⟨-, t1, t2, t3⟩ | ⟨-, t1, t2, t3⟩ <;> rcases sgz_cases c with ⟨-, r1, r2, r3⟩ | ⟨-, r1, r2, r3⟩ | ⟨-, r1, r2, r3⟩
  all_goals (as_aux_lemma =>
    rw [t1] at s1
    rw [r1] at s4
    subst s1
    subst s4
    subst s2
    (try have t4 : (0 : Int) < (((limbs (rn d)).length : Nat) : Int) := by have := llen_ne t3; omega)
    (try have t5 : limbs (rn d) = [] := by rw [t3, limbs_zero])
    (try have r5 : ((((limbs (rn c)).length : Nat) : Int) == 0) = false := by have := llen_ne r3; rw [beq_eq_false_iff_ne]; omega)
    (try have r6 : ((((limbs (rn c)).length : Nat) : Int) == 0) = true := by rw [r3, limbs_len0]; rfl)
    clear t1 t3 r1 r3
    go_wp2_with (with_reducible refine G.any_mark _ ?_; (try generalize Array.size (World.heap (G.w _)) = bk); (try dsimp only [List.set_cons_zero, List.set_cons_succ]); (try clear g); intro g)
    go_ret
    exact ⟨rfl, G.below _⟩)
end Go.Proofs.YtjdnpkicdmapnaaDoor
