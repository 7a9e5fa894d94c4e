/- Plain facts and contracts of functions of the program, out of walks. Their conditions stand ahead of each. -/
import Derived.Test.YtjdnpkicdmapnaaDoorRt3
import Derived.Test.YtjdnpkicdmapnaaDoorRt36
import Derived.Test.YtjdnpkicdmapnaaDoorRt50
import Derived.Below
import Derived.BigQuiet
import Derived.Deep.Draws
import Derived.Deep.LoopGhost
import Derived.Deep.QuietTactic
import Derived.Deep.RegionHeld3
import Derived.Deep.RegionLaw
import Derived.Defers
import Derived.Laws.BytesString
import Derived.Laws.Cells
import Derived.Laws.Concat
import Derived.Laws.CopyOwn
import Derived.Laws.CopyRow
import Derived.Laws.NewBlocks
import Derived.Laws.OwnMore
import Derived.Laws.Pointers
import Derived.Laws.Rows
import Derived.Lib.BitFns
import Derived.Lib.Hide
import Derived.Lib.ItoaNum
import Derived.Lib.TrailingZeros
import Derived.LoopIn
import Derived.LoopNIn
import Derived.Maps.AppendAt
import Derived.OrdersIn
import Derived.OwnWalk
import Derived.OwnWalkIn
import Derived.RangeFuncBound
import Derived.RangeFuncBox
import Derived.RangeFuncCalls
import Derived.RangeFuncLeaves
import Derived.RangeFuncNested
import Derived.RowKit3
import Derived.Shelf.Abstract
import Derived.Shelf.RegionOpen
import Derived.Shelf.Spec.TrailingZeros
import Derived.StillTactics
import Derived.StillTailTactics
import Derived.TacticsInMore
import Derived.Test.YtjdnpkicdmapnaaDoorProg
import Derived.WalkKit
import Derived.WalkLawsBesides
import Derived.WalkMore
import Derived.WalkSpells
set_option linter.unusedVariables false
set_option linter.unusedSimpArgs false
set_option exponentiation.threshold 10000
namespace Go.Proofs.YtjdnpkicdmapnaaDoor
open Go.RowKit GW NL
theorem pick_bool {P : Program} {f : FuncId} {v : Value} {s : Bool} {w : World} {R : Ending → World → Prop} (h : ∀ s : Bool, Calls P f #[v, .bool s] w R) : Calls P f #[v, .bool s] w R := h s
theorem llen_ne {v : Nat} (h : v ≠ 0) : 0 < (limbs v).length := by
  rcases Nat.eq_zero_or_pos (limbs v).length with h1 | h1
  · exact absurd (limbs_nil.1 (List.eq_nil_of_length_eq_zero h1)) h
  · exact h1
theorem bd_lit (s : Bool) {n d : Nat} (hd : d ≠ 0) (h1 : n < 2 ^ 64) (h2 : d < 2 ^ 64) : Bd 8192 (frac s n d) := (Bd.frac s hd h1 h2).mono (by decide)
theorem dec_one {d : Nat} (h : d < 10) (h0 : d ≠ 0) : dec d = [48 + d] := by
  unfold dec
  rw [if_neg h0, digs_pos h0, show d / 10 = 0 by omega, show d % 10 = d by omega, digs_zero]
  rfl
theorem qtext_lit : qtext (rneg (frac true 3 2)) (rn (frac true 3 2)) (frac true 3 2).den = { data := #[45, 51, 47, 50] } := by
  rw [show rneg (frac true 3 2) = true by decide +kernel, show rn (frac true 3 2) = 3 by decide +kernel, show (frac true 3 2).den = 2 by decide +kernel]
  unfold qtext
  rw [dec_one (by decide) (by decide), dec_one (by decide) (by decide)]
  rfl
set_option maxRecDepth 20000 in
set_option maxHeartbeats 2000000 in
theorem llives_x (w : World) (hT : Tab w) : Calls Tryd.prog 7 #[] w fun e w' => e = .returned (.bool true) ∧ Below w.heap.size w w' := by
  refine calls_b fun g => ?_
  have hq := qtext_lit
  obtain ⟨a, ha⟩ : ∃ a, frac true 3 2 = a := ⟨_, rfl⟩
  obtain ⟨b, hb⟩ : ∃ b, frac false 1 2 = b := ⟨_, rfl⟩
  obtain ⟨c, hc⟩ : ∃ c, frac false 1 3 = c := ⟨_, rfl⟩
  obtain ⟨d, hd⟩ : ∃ d, frac false 5 6 = d := ⟨_, rfl⟩
  have E1 : Hid (frac (decide ((6 : Int) < 0) != decide ((-4 : Int) < 0)) (6 : Int).natAbs (-4 : Int).natAbs = a) := Lib.hid (by rw [← ha]; decide +kernel)
  have E2 : Hid (frac (decide ((1 : Int) < 0) != decide ((2 : Int) < 0)) (1 : Int).natAbs (2 : Int).natAbs = b) := Lib.hid (by rw [← hb]; decide +kernel)
  have E3 : Hid (frac (decide ((1 : Int) < 0) != decide ((3 : Int) < 0)) (1 : Int).natAbs (3 : Int).natAbs = c) := Lib.hid (by rw [← hc]; decide +kernel)
  have E4 : Hid (frac (decide ((-3 : Int) < 0) != decide ((2 : Int) < 0)) (-3 : Int).natAbs (2 : Int).natAbs = a) := Lib.hid (by rw [← ha]; decide +kernel)
  have E5 : Hid (frac (decide ((5 : Int) < 0) != decide ((6 : Int) < 0)) (5 : Int).natAbs (6 : Int).natAbs = d) := Lib.hid (by rw [← hd]; decide +kernel)
  have E6 : Hid (b + c = d) := Lib.hid (by rw [← hb, ← hc, ← hd]; decide +kernel)
  have HBa : Hid (Bd 8192 a) := Lib.hid (by rw [← ha]; exact bd_lit _ (by decide) (by decide) (by decide))
  have HBb : Hid (Bd 8192 b) := Lib.hid (by rw [← hb]; exact bd_lit _ (by decide) (by decide) (by decide))
  have HBc : Hid (Bd 8192 c) := Lib.hid (by rw [← hc]; exact bd_lit _ (by decide) (by decide) (by decide))
  have HBd : Hid (Bd 8192 d) := Lib.hid (by rw [← hd]; exact bd_lit _ (by decide) (by decide) (by decide))
  rw [ha] at hq
  have HQ := Lib.hid hq
  have HT := Lib.hid hT
  clear ha hb hc hd hq hT
  go_enter Tryd.func7, Tryd.ntmps7
  go_wp2_with (with_reducible refine G.any_mark _ ?_; (try generalize Array.size (World.heap (G.w _)) = bk); (try dsimp only [List.set_cons_zero, List.set_cons_succ]); (try clear g); intro g)
  (try (refine cmark _ ?_; (try dsimp only [List.set_cons_zero, List.set_cons_succ]); (try clear g); intro g))
  refine (qOf_x 6 (-4) a (by decide) HBa.out E1.out (by decide) (by decide) (by decide) (by decide) _ (G.tab g HT.out)).mono ?_
  rintro e w1 ⟨Aa, ca, Fa, Ba, da, Ha, rfl, hsa, hta, hn, hm⟩
  have hnna := fun k o hk => Nat.le_trans g.chg.size (hn.new k o hk)
  have hmma := fun k o hk => Nat.le_trans g.chg.size (hm.new k o hk)
  obtain ⟨g1, rfl⟩ := G.new2_ex _ hn hm
  clear hn hm
  (try clear g)
  revert g1
  intro g
  go_wp2_with (with_reducible refine G.any_mark _ ?_; (try generalize Array.size (World.heap (G.w _)) = bk); (try dsimp only [List.set_cons_zero, List.set_cons_succ]); (try clear g); intro g)
  (try (refine cmark _ ?_; (try dsimp only [List.set_cons_zero, List.set_cons_succ]); (try clear g); intro g))
  refine (lof_x (1) (2) b (by decide) E2.out (by decide) (by decide) (by decide) (by decide) _).mono ?_
  rintro e w1 ⟨Ab, cb, Fb, Bb, db, Hb, rfl, hsb, htb, hn, hm⟩
  have hnnb := fun k o hk => Nat.le_trans g.chg.size (hn.new k o hk)
  have hmmb := fun k o hk => Nat.le_trans g.chg.size (hm.new k o hk)
  obtain ⟨g1, rfl⟩ := G.new2_ex _ hn hm
  clear hn hm
  (try clear g)
  revert g1
  intro g
  go_wp2_with (with_reducible refine G.any_mark _ ?_; (try generalize Array.size (World.heap (G.w _)) = bk); (try dsimp only [List.set_cons_zero, List.set_cons_succ]); (try clear g); intro g)
  (try (refine cmark _ ?_; (try dsimp only [List.set_cons_zero, List.set_cons_succ]); (try clear g); intro g))
  refine (lof_x (1) (3) c (by decide) E3.out (by decide) (by decide) (by decide) (by decide) _).mono ?_
  rintro e w1 ⟨Ac, cc, Fc, Bc, dc, Hc, rfl, hsc, htc, hn, hm⟩
  have hnnc := fun k o hk => Nat.le_trans g.chg.size (hn.new k o hk)
  have hmmc := fun k o hk => Nat.le_trans g.chg.size (hm.new k o hk)
  obtain ⟨g1, rfl⟩ := G.new2_ex _ hn hm
  clear hn hm
  (try clear g)
  revert g1
  intro g
  go_wp2_with (with_reducible refine G.any_mark _ ?_; (try generalize Array.size (World.heap (G.w _)) = bk); (try dsimp only [List.set_cons_zero, List.set_cons_succ]); (try clear g); intro g)
  (try (refine cmark _ ?_; (try dsimp only [List.set_cons_zero, List.set_cons_succ]); (try clear g); intro g))
  refine (qAdd_x _ _ _ _ _ _ _ _ b c d HBb.out HBc.out HBd.out E6.out _ (G.sl g (by simp) hsb) (G.sl g (by simp) htb) (G.sl g (by simp) hsc) (G.sl g (by simp) htc) (G.tab g HT.out)).mono ?_
  rintro e w1 ⟨Ad, cd, Fd, Bd, dd, Hd, rfl, hsd, htd, hn, hm⟩
  have hnnd := fun k o hk => Nat.le_trans g.chg.size (hn.new k o hk)
  have hmmd := fun k o hk => Nat.le_trans g.chg.size (hm.new k o hk)
  obtain ⟨g1, rfl⟩ := G.new2_ex _ hn hm
  clear hn hm
  (try clear g)
  revert g1
  intro g
  go_wp2_with (with_reducible refine G.any_mark _ ?_; (try generalize Array.size (World.heap (G.w _)) = bk); (try dsimp only [List.set_cons_zero, List.set_cons_succ]); (try clear g); intro g)
  (try (refine cmark _ ?_; (try dsimp only [List.set_cons_zero, List.set_cons_succ]); (try clear g); intro g))
  refine (lof_x (-3) (2) a (by decide) E4.out (by decide) (by decide) (by decide) (by decide) _).mono ?_
  rintro e w1 ⟨Ae, ce, Fe, Be, de, He, rfl, hse, hte, hn, hm⟩
  have hnne := fun k o hk => Nat.le_trans g.chg.size (hn.new k o hk)
  have hmme := fun k o hk => Nat.le_trans g.chg.size (hm.new k o hk)
  obtain ⟨g1, rfl⟩ := G.new2_ex _ hn hm
  clear hn hm
  (try clear g)
  revert g1
  intro g
  go_wp2_with (with_reducible refine G.any_mark _ ?_; (try generalize Array.size (World.heap (G.w _)) = bk); (try dsimp only [List.set_cons_zero, List.set_cons_succ]); (try clear g); intro g)
  (try (refine cmark _ ?_; (try dsimp only [List.set_cons_zero, List.set_cons_succ]); (try clear g); intro g))
  refine (qText_x _ _ _ _ a HBa.out _ (G.sl g (by simp) hse) (G.sl g (by simp) hte) (G.tab g HT.out)).mono ?_
  rw [HQ.out]
  rintro e w1 ⟨rfl, hb⟩
  obtain ⟨g1, rfl⟩ := G.call_ex _ hb
  clear hb
  (try clear g)
  revert g1
  intro g
  go_wp2_with (with_reducible refine G.any_mark _ ?_; (try generalize Array.size (World.heap (G.w _)) = bk); (try dsimp only [List.set_cons_zero, List.set_cons_succ]); (try clear g); intro g)
  (try (refine cmark _ ?_; (try dsimp only [List.set_cons_zero, List.set_cons_succ]); (try clear g); intro g))
  refine (lis_x _ _ _ _ (-3) 2 a (by decide) E4.out (by decide) (by decide) (by decide) (by decide) _ (G.sl g (by simp) hsa) (G.sl g (by simp) hta)).mono ?_
  rintro e w1 ⟨rfl, hb⟩
  obtain ⟨g1, rfl⟩ := G.call_ex _ hb
  clear hb
  (try clear g)
  revert g1
  intro g
  go_wp2_with (with_reducible refine G.any_mark _ ?_; (try generalize Array.size (World.heap (G.w _)) = bk); (try dsimp only [List.set_cons_zero, List.set_cons_succ]); (try clear g); intro g)
  (try (refine cmark _ ?_; (try dsimp only [List.set_cons_zero, List.set_cons_succ]); (try clear g); intro g))
  refine (lis_x _ _ _ _ 5 6 d (by decide) E5.out (by decide) (by decide) (by decide) (by decide) _ (G.sl g (by simp) hsd) (G.sl g (by simp) htd)).mono ?_
  rintro e w1 ⟨rfl, hb⟩
  obtain ⟨g1, rfl⟩ := G.call_ex _ hb
  clear hb
  (try clear g)
  revert g1
  intro g
  go_wp2_with (with_reducible refine G.any_mark _ ?_; (try generalize Array.size (World.heap (G.w _)) = bk); (try dsimp only [List.set_cons_zero, List.set_cons_succ]); (try clear g); intro g)
  go_ret
  exact ⟨rfl, G.below _⟩
end Go.Proofs.YtjdnpkicdmapnaaDoor
namespace Go.Proofs.YtjdnpkicdmapnaaDoor
open Go.RowKit GW NL
/-- what rounding says -/
theorem round_facts (a : Rat) : ¬ sgz (a - (a.floor : Rat) - 0) < 0 ∧ sgz (a - (a.floor : Rat) - 1) < 0 ∧ ¬ 0 < sgz (((rndz a : Int) : Rat) - a - 1 / 2) ∧ ¬ sgz (((rndz a : Int) : Rat) - a - (-(1 / 2))) < 0 := by
  have h1 := Rat.floor_le a
  have h2 := Rat.lt_floor_add_one a
  rw [Rat.intCast_add] at h2
  have h2 : a < (a.floor : Rat) + 1 := by simpa using h2
  obtain ⟨h3, h4⟩ := rnd_off a
  generalize (a.floor : Rat) = f at *
  generalize ((rndz a : Int) : Rat) = r at *
  refine ⟨?_, ?_, ?_, ?_⟩
  · rcases sgz_cases (a - f - 0) with ⟨h, e, _⟩ | ⟨h, e, _⟩ | ⟨h, e, _⟩ <;> rw [e] <;> first | decide | (exfalso; grind)
  · rcases sgz_cases (a - f - 1) with ⟨h, e, _⟩ | ⟨h, e, _⟩ | ⟨h, e, _⟩ <;> rw [e] <;> first | decide | (exfalso; grind)
  · rcases sgz_cases (r - a - 1 / 2) with ⟨h, e, _⟩ | ⟨h, e, _⟩ | ⟨h, e, _⟩ <;> rw [e] <;> first | decide | (exfalso; grind)
  · rcases sgz_cases (r - a - (-(1 / 2))) with ⟨h, e, _⟩ | ⟨h, e, _⟩ | ⟨h, e, _⟩ <;> rw [e] <;> first | decide | (exfalso; grind)
theorem half_facts (f : Int) : sgz (((rndz ((f : Rat) + 1 / 2) : Int) : Rat) - ((f : Rat) + 1 / 2) - 1 / 2) = (if rneg ((f : Rat) + 1 / 2) then -1 else 0) ∧ sgz (((rndz ((f : Rat) + 1 / 2) : Int) : Rat) - ((f : Rat) + 1 / 2) - (-(1 / 2))) = (if rneg ((f : Rat) + 1 / 2) then 0 else 1) := by
  rw [rnd_half]
  cases rneg ((f : Rat) + 1 / 2)
  · exact ⟨by decide +kernel, by decide +kernel⟩
  · exact ⟨by decide +kernel, by decide +kernel⟩
theorem frac_lits : frac false 0 1 = 0 ∧ frac false 1 1 = 1 ∧ frac false 1 2 = 1 / 2 ∧ frac true 1 2 = -(1 / 2) := by
  refine ⟨?_, ?_, ?_, ?_⟩ <;> decide +kernel
theorem same_one (A B : Option Addr) (c k n : Nat) (z : Rat) (hz : z.den = 1) (hn : (limbs z.den).length = n) (w : World) (h1 : SlW w A c (limbs z.den)) (h2 : SlW w B k (limbs 1)) :
    Calls Tryd.prog 20 #[.slice A n c, .slice B 1 k] w fun e w' => e = .returned (.bool true) ∧ Below w.heap.size w w' := by
  rw [hz] at h1 hn
  have := same_any A B c k (limbs 1) w h1 h2
  rw [limbs_one (by decide) (by decide)] at this hn
  subst hn
  exact this
set_option maxRecDepth 20000 in
set_option maxHeartbeats 8000000 in
theorem rounds_no (A1 : Option Addr) (c1 : Nat) (l1 : List Nat) (neg : Bool) (w : World) (h1 : SlW w A1 c1 l1) (hT : Tab w) :
    Calls Tryd.prog 5 #[.slice A1 l1.length c1, .bool neg, .bool false] w fun e w' => e = .returned (.bool true) ∧ Below w.heap.size w w' := by
  refine calls_b fun g => ?_
  have CL := Lib.hid llives_x
  have CV1 := Lib.hid (fun s w h => lvalid_x A1 c1 l1 s w h)
  unfold RNf at CV1
  have HO1 := Lib.hid h1.ok
  have H1 := Lib.hid h1
  have HT := Lib.hid hT
  clear h1 hT
  generalize l1.length = n1 at *
  go_enter Tryd.func5, Tryd.ntmps5
  go_wp2_with (with_reducible refine G.any_mark _ ?_; (try generalize Array.size (World.heap (G.w _)) = bk); (try dsimp only [List.set_cons_zero, List.set_cons_succ]); (try clear g); intro g)
  refine (CL.out _ (G.tab g HT.out)).mono ?_
  rintro e w1 ⟨rfl, hb⟩
  obtain ⟨g1, rfl⟩ := G.call_ex _ hb
  clear hb
  (try clear g)
  revert g1
  intro g
  go_wp2_with (with_reducible refine G.any_mark _ ?_; (try generalize Array.size (World.heap (G.w _)) = bk); (try dsimp only [List.set_cons_zero, List.set_cons_succ]); (try clear g); intro g)
  refine (CV1.out neg _ (G.sl g (by simp) H1.out)).mono ?_
  rintro e w1 ⟨Aa, ca, Fa, Ba, da, Ha, rfl, hsa, hta, hn, hm⟩
  have hnna := fun k o hk => Nat.le_trans g.chg.size (hn.new k o hk)
  have hmma := fun k o hk => Nat.le_trans g.chg.size (hm.new k o hk)
  obtain ⟨g1, rfl⟩ := G.new2_ex _ hn hm
  clear hn hm
  (try clear g)
  revert g1
  intro g
  obtain ⟨k0, k1, k2, k3⟩ := frac_lits
  obtain ⟨z0, y0⟩ : ∃ z : Rat, 0 = z := ⟨_, rfl⟩
  obtain ⟨z1, y1⟩ : ∃ z : Rat, 1 = z := ⟨_, rfl⟩
  obtain ⟨zh, yh⟩ : ∃ z : Rat, 1 / 2 = z := ⟨_, rfl⟩
  obtain ⟨zm, ym⟩ : ∃ z : Rat, -(1 / 2) = z := ⟨_, rfl⟩
  rw [y0] at k0
  rw [y1] at k1
  rw [ym] at k3
  rw [yh] at k2
  have EO0 : Hid (frac (decide ((0 : Int) < 0) != decide ((1 : Int) < 0)) (0 : Int).natAbs (1 : Int).natAbs = z0) := Lib.hid (by exact k0)
  have EO1 : Hid (frac (decide ((1 : Int) < 0) != decide ((1 : Int) < 0)) (1 : Int).natAbs (1 : Int).natAbs = z1) := Lib.hid (by exact k1)
  have EOh : Hid (frac (decide ((1 : Int) < 0) != decide ((2 : Int) < 0)) (1 : Int).natAbs (2 : Int).natAbs = zh) := Lib.hid (by exact k2)
  have EOm : Hid (frac (decide ((-1 : Int) < 0) != decide ((2 : Int) < 0)) (-1 : Int).natAbs (2 : Int).natAbs = zm) := Lib.hid (by exact k3)
  have HBz0 : Hid (Bd 8192 z0) := Lib.hid (by rw [← k0]; exact bd_lit _ (by decide) (by decide) (by decide))
  have HBz1 : Hid (Bd 8192 z1) := Lib.hid (by rw [← k1]; exact bd_lit _ (by decide) (by decide) (by decide))
  have hbh : Bd 4 zh := by rw [← k2]; exact Bd.frac _ (by decide) (by decide) (by decide)
  have HBzh : Hid (Bd 8192 zh) := Lib.hid (hbh.mono (by decide))
  have HBzm : Hid (Bd 8192 zm) := Lib.hid (by rw [← ym]; rw [← yh] at hbh; exact Bd.mono hbh.neg (by decide))
  clear k0 k1 k2 k3
  have CO0 : Hid (∀ w, Calls Tryd.prog 17 #[.int .i64 0, .int .i64 1] w (RNf z0 w)) := Lib.hid (fun w => lof_x 0 1 z0 (by decide) EO0.out (by decide) (by decide) (by decide) (by decide) w)
  have CO1 : Hid (∀ w, Calls Tryd.prog 17 #[.int .i64 1, .int .i64 1] w (RNf z1 w)) := Lib.hid (fun w => lof_x 1 1 z1 (by decide) EO1.out (by decide) (by decide) (by decide) (by decide) w)
  have COh : Hid (∀ w, Calls Tryd.prog 17 #[.int .i64 1, .int .i64 2] w (RNf zh w)) := Lib.hid (fun w => lof_x 1 2 zh (by decide) EOh.out (by decide) (by decide) (by decide) (by decide) w)
  have COm : Hid (∀ w, Calls Tryd.prog 17 #[.int .i64 (-1), .int .i64 2] w (RNf zm w)) := Lib.hid (fun w => lof_x (-1) 2 zm (by decide) EOm.out (by decide) (by decide) (by decide) (by decide) w)
  clear EO0 EO1 EOh EOm
  obtain ⟨a, ha, hba⟩ : ∃ a, vq neg l1 = a ∧ Bd 900 a := ⟨_, rfl, (vq_bd _ HO1.out).mono (by decide)⟩
  rw [ha] at hsa hta ⊢
  clear ha CV1 CL HO1 H1
  obtain ⟨v1, v2, v3, v4⟩ := round_facts a
  rw [y0] at v1
  rw [y1] at v2
  rw [ym] at v4
  rw [yh] at v3
  obtain ⟨f, e1⟩ : ∃ x : Rat, (a.floor : Rat) = x := ⟨_, rfl⟩
  obtain ⟨r, e2⟩ : ∃ x : Rat, ((rndz a : Int) : Rat) = x := ⟨_, rfl⟩
  obtain ⟨m, e3⟩ : ∃ x : Rat, -a = x := ⟨_, rfl⟩
  obtain ⟨o, e4⟩ : ∃ x : Rat, ((rndz m : Int) : Rat) = x := ⟨_, rfl⟩
  have e5 : -o = r := by rw [← e4, ← e3, rnd_neg, Rat.intCast_neg, ← e2]; exact Rat.neg_neg _
  have hfd : f.den = 1 := by rw [← e1]; exact Rat.den_intCast _
  have hrd : r.den = 1 := by rw [← e2]; exact Rat.den_intCast _
  obtain ⟨rest, e6⟩ : ∃ x : Rat, a - f = x := ⟨_, rfl⟩
  obtain ⟨off, e7⟩ : ∃ x : Rat, r - a = x := ⟨_, rfl⟩
  rw [e1, e6] at v1 v2
  rw [e2, e7] at v3 v4
  have hf : Bd 901 f := by rw [← e1]; exact hba.floor
  have hr : Bd 903 r := by rw [← e2]; exact hba.rnd
  have hm : Bd 900 m := by rw [← e3]; exact hba.neg
  have ho : Bd 903 o := by rw [← e4]; exact hm.rnd
  have hrest : Bd 1802 rest := by rw [← e6]; exact hba.sub hf
  have hoff : Bd 1804 off := by rw [← e7]; exact hr.sub hba
  obtain ⟨zl, HZL⟩ : ∃ z, Hid (sgz (rest - z0) = z) := ⟨_, Lib.hid rfl⟩
  obtain ⟨zg, HZG⟩ : ∃ z, Hid (sgz (rest - z1) = z) := ⟨_, Lib.hid rfl⟩
  obtain ⟨zu, HZU⟩ : ∃ z, Hid (sgz (off - zh) = z) := ⟨_, Lib.hid rfl⟩
  obtain ⟨zd, HZD⟩ : ∃ z, Hid (sgz (off - zm) = z) := ⟨_, Lib.hid rfl⟩
  rw [HZL.out] at v1
  rw [HZG.out] at v2
  rw [HZU.out] at v3
  rw [HZD.out] at v4
  have v2 : ¬ 0 ≤ zg := by omega
  have HBa := Lib.hid (hba.mono (show 900 ≤ 8192 by decide))
  have HBf := Lib.hid (hf.mono (show 901 ≤ 8192 by decide))
  have HBr := Lib.hid (hr.mono (show 903 ≤ 8192 by decide))
  have HBm := Lib.hid (hm.mono (show 900 ≤ 8192 by decide))
  have HBo := Lib.hid (ho.mono (show 903 ≤ 8192 by decide))
  have HBrest := Lib.hid (hrest.mono (show 1802 ≤ 8192 by decide))
  have HBoff := Lib.hid (hoff.mono (show 1804 ≤ 8192 by decide))
  have HB1 := Lib.hid (hba.mono (show 900 ≤ 8191 by decide))
  have HB2 := Lib.hid (hba.mono (show 900 ≤ 8189 by decide))
  have HB3 := Lib.hid (hm.mono (show 900 ≤ 8189 by decide))
  have E1 := Lib.hid e1
  have E2 := Lib.hid e2
  have E3 := Lib.hid e3
  have E4 := Lib.hid e4
  have E5 := Lib.hid e5
  have E6 := Lib.hid e6
  have E7 := Lib.hid e7
  have HFD := Lib.hid hfd
  have HRD := Lib.hid hrd
  have C0 := Lib.hid (fun A1 B1 A2 B2 c1 k1 c2 k2 w h1 j1 h2 j2 t => qCmp_x A1 B1 A2 B2 c1 k1 c2 k2 rest z0 zl HBrest.out HBz0.out HZL.out w h1 j1 h2 j2 t)
  have C1 := Lib.hid (fun A1 B1 A2 B2 c1 k1 c2 k2 w h1 j1 h2 j2 t => qCmp_x A1 B1 A2 B2 c1 k1 c2 k2 rest z1 zg HBrest.out HBz1.out HZG.out w h1 j1 h2 j2 t)
  have C2 := Lib.hid (fun A1 B1 A2 B2 c1 k1 c2 k2 w h1 j1 h2 j2 t => qCmp_x A1 B1 A2 B2 c1 k1 c2 k2 off zh zu HBoff.out HBzh.out HZU.out w h1 j1 h2 j2 t)
  have C3 := Lib.hid (fun A1 B1 A2 B2 c1 k1 c2 k2 w h1 j1 h2 j2 t => qCmp_x A1 B1 A2 B2 c1 k1 c2 k2 off zm zd HBoff.out HBzm.out HZD.out w h1 j1 h2 j2 t)
  have n1 : Hid ((limbs 1).length = 1 ∧ [Value.int .u32 1] = u32s (limbs 1)) := Lib.hid ⟨by rw [limbs_one (by decide) (by decide)]; rfl, by rw [limbs_one (by decide) (by decide)]; rfl⟩
  clear e1 e2 e3 e4 e5 e6 e7 hfd hrd hf hr hm ho hrest hoff hba HZL HZG HZU HZD hbh
  go_wp2_with (with_reducible refine G.any_mark _ ?_; (try generalize Array.size (World.heap (G.w _)) = bk); (try dsimp only [List.set_cons_zero, List.set_cons_succ]); (try clear g); intro g)
  (as_aux_lemma =>
  (try (refine cmark _ ?_; (try dsimp only [List.set_cons_zero, List.set_cons_succ]); (try clear g); intro g))
  refine (qFloor_x _ _ _ _ a f HB1.out E1.out _ (G.sl g (by simp) hsa) (G.sl g (by simp) hta) (G.tab g HT.out)).mono ?_
  rintro e w1 ⟨Af, cf, Ff, Bf, df, Hf, rfl, hsf, htf, hn, hm⟩
  have hnnf := fun k o hk => Nat.le_trans g.chg.size (hn.new k o hk)
  have hmmf := fun k o hk => Nat.le_trans g.chg.size (hm.new k o hk)
  obtain ⟨g1, rfl⟩ := G.new2_ex _ hn hm
  clear hn hm
  (try clear g)
  revert g1
  intro g
  go_wp2_with (with_reducible refine G.any_mark _ ?_; (try generalize Array.size (World.heap (G.w _)) = bk); (try dsimp only [List.set_cons_zero, List.set_cons_succ]); (try clear g); intro g)
  (try (refine cmark _ ?_; (try dsimp only [List.set_cons_zero, List.set_cons_succ]); (try clear g); intro g))
  refine (qRound_x _ _ _ _ a r HB2.out E2.out _ (G.sl g (by simp) hsa) (G.sl g (by simp) hta) (G.tab g HT.out)).mono ?_
  rintro e w1 ⟨Ar, cr, Fr, Br, dr, Hr, rfl, hsr, htr, hn, hm⟩
  have hnnr := fun k o hk => Nat.le_trans g.chg.size (hn.new k o hk)
  have hmmr := fun k o hk => Nat.le_trans g.chg.size (hm.new k o hk)
  obtain ⟨g1, rfl⟩ := G.new2_ex _ hn hm
  clear hn hm
  (try clear g)
  revert g1
  intro g
  go_wp2_with (with_reducible refine G.any_mark _ ?_; (try generalize Array.size (World.heap (G.w _)) = bk); (try dsimp only [List.set_cons_zero, List.set_cons_succ]); (try clear g); intro g)
  (try (refine cmark _ ?_; (try dsimp only [List.set_cons_zero, List.set_cons_succ]); (try clear g); intro g))
  refine (qNeg_x _ _ _ _ a m HBa.out E3.out _ (G.sl g (by simp) hsa) (G.sl g (by simp) hta) (G.tab g HT.out)).mono ?_
  rintro e w1 ⟨Am, cm, Fm, Bm, dm, Hm, rfl, hsm, htm, hn, hm⟩
  have hnnm := fun k o hk => Nat.le_trans g.chg.size (hn.new k o hk)
  have hmmm := fun k o hk => Nat.le_trans g.chg.size (hm.new k o hk)
  obtain ⟨g1, rfl⟩ := G.new2_ex _ hn hm
  clear hn hm
  (try clear g)
  revert g1
  intro g
  go_wp2_with (with_reducible refine G.any_mark _ ?_; (try generalize Array.size (World.heap (G.w _)) = bk); (try dsimp only [List.set_cons_zero, List.set_cons_succ]); (try clear g); intro g)
  (as_aux_lemma =>
  (try (refine cmark _ ?_; (try dsimp only [List.set_cons_zero, List.set_cons_succ]); (try clear g); intro g))
  refine (qRound_x _ _ _ _ m o HB3.out E4.out _ (G.sl g (by simp) hsm) (G.sl g (by simp) htm) (G.tab g HT.out)).mono ?_
  rintro e w1 ⟨Aoo, coo, Foo, Boo, doo, Hoo, rfl, hsoo, htoo, hn, hm⟩
  have hnnoo := fun k o hk => Nat.le_trans g.chg.size (hn.new k o hk)
  have hmmoo := fun k o hk => Nat.le_trans g.chg.size (hm.new k o hk)
  obtain ⟨g1, rfl⟩ := G.new2_ex _ hn hm
  clear hn hm
  (try clear g)
  revert g1
  intro g
  go_wp2_with (with_reducible refine G.any_mark _ ?_; (try generalize Array.size (World.heap (G.w _)) = bk); (try dsimp only [List.set_cons_zero, List.set_cons_succ]); (try clear g); intro g)
  (try (refine cmark _ ?_; (try dsimp only [List.set_cons_zero, List.set_cons_succ]); (try clear g); intro g))
  refine (qNeg_x _ _ _ _ o r HBo.out E5.out _ (G.sl g (by simp) hsoo) (G.sl g (by simp) htoo) (G.tab g HT.out)).mono ?_
  rintro e w1 ⟨Ap, cp, Fp, Bp, dp, Hp, rfl, hsp, htp, hn, hm⟩
  have hnnp := fun k o hk => Nat.le_trans g.chg.size (hn.new k o hk)
  have hmmp := fun k o hk => Nat.le_trans g.chg.size (hm.new k o hk)
  obtain ⟨g1, rfl⟩ := G.new2_ex _ hn hm
  clear hn hm
  (try clear g)
  revert g1
  intro g
  go_wp2_with (with_reducible refine G.any_mark _ ?_; (try generalize Array.size (World.heap (G.w _)) = bk); (try dsimp only [List.set_cons_zero, List.set_cons_succ]); (try clear g); intro g)
  (try (refine cmark _ ?_; (try dsimp only [List.set_cons_zero, List.set_cons_succ]); (try clear g); intro g))
  refine (qSub_x _ _ _ _ _ _ _ _ a f rest HBa.out HBf.out HBrest.out E6.out _ (G.sl g (by simp) hsa) (G.sl g (by simp) hta) (G.sl g (by simp) hsf) (G.sl g (by simp) htf) (G.tab g HT.out)).mono ?_
  rintro e w1 ⟨At, ct, Ft, Bt, dt, Ht, rfl, hst, htt, hn, hm⟩
  have hnnt := fun k o hk => Nat.le_trans g.chg.size (hn.new k o hk)
  have hmmt := fun k o hk => Nat.le_trans g.chg.size (hm.new k o hk)
  obtain ⟨g1, rfl⟩ := G.new2_ex _ hn hm
  clear hn hm
  (try clear g)
  revert g1
  intro g
  go_wp2_with (with_reducible refine G.any_mark _ ?_; (try generalize Array.size (World.heap (G.w _)) = bk); (try dsimp only [List.set_cons_zero, List.set_cons_succ]); (try clear g); intro g)
  (as_aux_lemma =>
  all_goals (first | ((try simp only [G.drew_eq, G.drewN_eq]); (refine G.any_mark _ ?_; (try clear g); intro g)) | skip)
  all_goals go_region_held3 (G.heldN g [true, false, false, false, false, false, false]) (simp [G.heldN, HeldN, go_sem]) (first
      | (go_at_call 17; (with_reducible refine (CO0.out _).mono ?_); rintro e w1 ⟨Au, cu, Fu, Bu, du, Hu, rfl, hsu, htu, hnq, hmq⟩; obtain ⟨g1, rfl⟩ := G.new2_ex _ hnq hmq; clear hnq hmq; (try clear g); revert g1; intro g)
      | (go_at_call 15; (with_reducible refine (C0.out _ _ _ _ _ _ _ _ _ ?_ ?_ ?_ ?_ ?_).mono ?_); (· exact G.sl _ (by simp) hst); (· exact G.sl _ (by simp) htt); (· exact G.sl _ (by simp) hsu); (· exact G.sl _ (by simp) htu); (· exact G.tab _ HT.out); rintro e w1 ⟨rfl, hb⟩; obtain ⟨g1, rfl⟩ := G.call_ex _ hb; clear hb; (try clear g); revert g1; intro g))
  all_goals (first | ((try simp only [G.drew_eq, G.drewN_eq]); (refine G.any_mark _ ?_; (try clear g); intro g)) | skip)
  all_goals go_wp2_with (with_reducible refine G.any_mark _ ?_; (try generalize Array.size (World.heap (G.w _)) = bk); (try dsimp only [List.set_cons_zero, List.set_cons_succ]); (try clear g); intro g)
  all_goals (first | ((try simp only [G.drew_eq, G.drewN_eq]); (refine G.any_mark _ ?_; (try clear g); intro g)) | skip)
  all_goals go_region_held3 (G.heldN g [true, false, false, false, false, false, false]) (simp [G.heldN, HeldN, go_sem]) (first
      | (go_at_call 17; (with_reducible refine (CO1.out _).mono ?_); rintro e w1 ⟨Av, cv, Fv, Bv, dv, Hv, rfl, hsv, htv, hnq, hmq⟩; obtain ⟨g1, rfl⟩ := G.new2_ex _ hnq hmq; clear hnq hmq; (try clear g); revert g1; intro g)
      | (go_at_call 15; (with_reducible refine (C1.out _ _ _ _ _ _ _ _ _ ?_ ?_ ?_ ?_ ?_).mono ?_); (· exact G.sl _ (by simp) hst); (· exact G.sl _ (by simp) htt); (· exact G.sl _ (by simp) hsv); (· exact G.sl _ (by simp) htv); (· exact G.tab _ HT.out); rintro e w1 ⟨rfl, hb⟩; obtain ⟨g1, rfl⟩ := G.call_ex _ hb; clear hb; (try clear g); revert g1; intro g))
  all_goals (first | ((try simp only [G.drew_eq, G.drewN_eq]); (refine G.any_mark _ ?_; (try clear g); intro g)) | skip)
  all_goals go_wp2_with (with_reducible refine G.any_mark _ ?_; (try generalize Array.size (World.heap (G.w _)) = bk); (try dsimp only [List.set_cons_zero, List.set_cons_succ]); (try clear g); intro g)
  (as_aux_lemma =>
  (try (refine cmark _ ?_; (try dsimp only [List.set_cons_zero, List.set_cons_succ]); (try clear g); intro g))
  refine (qSub_x _ _ _ _ _ _ _ _ r a off HBr.out HBa.out HBoff.out E7.out _ (G.sl g (by simp) hsr) (G.sl g (by simp) htr) (G.sl g (by simp) hsa) (G.sl g (by simp) hta) (G.tab g HT.out)).mono ?_
  rintro e w1 ⟨Ax, cx, Fx, Bx, dx, Hx, rfl, hsx, htx, hn, hm⟩
  have hnnx := fun k o hk => Nat.le_trans g.chg.size (hn.new k o hk)
  have hmmx := fun k o hk => Nat.le_trans g.chg.size (hm.new k o hk)
  obtain ⟨g1, rfl⟩ := G.new2_ex _ hn hm
  clear hn hm
  (try clear g)
  revert g1
  intro g
  go_wp2_with (with_reducible refine G.any_mark _ ?_; (try generalize Array.size (World.heap (G.w _)) = bk); (try dsimp only [List.set_cons_zero, List.set_cons_succ]); (try clear g); intro g)
  (try (refine cmark _ ?_; (try dsimp only [List.set_cons_zero, List.set_cons_succ]); (try clear g); intro g))
  refine (lsame_x _ _ _ _ _ _ _ _ r _ (G.sl g (by simp) hsr) (G.sl g (by simp) htr) (G.sl g (by simp) hsp) (G.sl g (by simp) htp)).mono ?_
  rintro e w1 ⟨rfl, hb⟩
  obtain ⟨g1, rfl⟩ := G.call_ex _ hb
  clear hb
  (try clear g)
  revert g1
  intro g
  go_wp2_with (with_reducible refine G.any_mark _ ?_; (try generalize Array.size (World.heap (G.w _)) = bk); (try dsimp only [List.set_cons_zero, List.set_cons_succ]); (try clear g); intro g)
  (try (refine cmark _ ?_; (try dsimp only [List.set_cons_zero, List.set_cons_succ]); (try clear g); intro g))
  refine (same_one _ _ _ _ _ f HFD.out rfl _ (G.sl g (by simp) htf) (G.lit0 g _ _ n1.out.2 n1.out.1 (by decide))).mono ?_
  rintro e w1 ⟨rfl, hb⟩
  obtain ⟨g1, rfl⟩ := G.call_ex _ hb
  clear hb
  (try clear g)
  revert g1
  intro g
  go_wp2_with (with_reducible refine G.any_mark _ ?_; (try generalize Array.size (World.heap (G.w _)) = bk); (try dsimp only [List.set_cons_zero, List.set_cons_succ]); (try clear g); intro g)
  (try (refine cmark _ ?_; (try dsimp only [List.set_cons_zero, List.set_cons_succ]); (try clear g); intro g))
  refine (same_one _ _ _ _ _ r HRD.out rfl _ (G.sl g (by simp) htr) (G.lit0 g _ _ n1.out.2 n1.out.1 (by decide))).mono ?_
  rintro e w1 ⟨rfl, hb⟩
  obtain ⟨g1, rfl⟩ := G.call_ex _ hb
  clear hb
  (try clear g)
  revert g1
  intro g
  go_wp2_with (with_reducible refine G.any_mark _ ?_; (try generalize Array.size (World.heap (G.w _)) = bk); (try dsimp only [List.set_cons_zero, List.set_cons_succ]); (try clear g); intro g)
  (as_aux_lemma =>
  all_goals (first | ((try simp only [G.drew_eq, G.drewN_eq]); (refine G.any_mark _ ?_; (try clear g); intro g)) | skip)
  all_goals go_region_held3 (G.heldN g [false, false, true, false, false, false, false, false, false, false]) (simp [G.heldN, HeldN, go_sem]) (first
      | (go_at_call 17; (with_reducible refine (COh.out _).mono ?_); rintro e w1 ⟨Ay, cy, Fy, By, dy, Hy, rfl, hsy, hty, hnq, hmq⟩; obtain ⟨g1, rfl⟩ := G.new2_ex _ hnq hmq; clear hnq hmq; (try clear g); revert g1; intro g)
      | (go_at_call 15; (with_reducible refine (C2.out _ _ _ _ _ _ _ _ _ ?_ ?_ ?_ ?_ ?_).mono ?_); (· exact G.sl _ (by simp) hsx); (· exact G.sl _ (by simp) htx); (· exact G.sl _ (by simp) hsy); (· exact G.sl _ (by simp) hty); (· exact G.tab _ HT.out); rintro e w1 ⟨rfl, hb⟩; obtain ⟨g1, rfl⟩ := G.call_ex _ hb; clear hb; (try clear g); revert g1; intro g))
  all_goals (first | ((try simp only [G.drew_eq, G.drewN_eq]); (refine G.any_mark _ ?_; (try clear g); intro g)) | skip)
  all_goals go_wp2_with (with_reducible refine G.any_mark _ ?_; (try generalize Array.size (World.heap (G.w _)) = bk); (try dsimp only [List.set_cons_zero, List.set_cons_succ]); (try clear g); intro g)
  all_goals (first | ((try simp only [G.drew_eq, G.drewN_eq]); (refine G.any_mark _ ?_; (try clear g); intro g)) | skip)
  all_goals go_region_held3 (G.heldN g [false, false, true, false, false, false, false, false, false, false]) (simp [G.heldN, HeldN, go_sem]) (first
      | (go_at_call 17; (with_reducible refine (COm.out _).mono ?_); rintro e w1 ⟨Az, cz, Fz, Bz, dz, Hz, rfl, hsz, htz, hnq, hmq⟩; obtain ⟨g1, rfl⟩ := G.new2_ex _ hnq hmq; clear hnq hmq; (try clear g); revert g1; intro g)
      | (go_at_call 15; (with_reducible refine (C3.out _ _ _ _ _ _ _ _ _ ?_ ?_ ?_ ?_ ?_).mono ?_); (· exact G.sl _ (by simp) hsx); (· exact G.sl _ (by simp) htx); (· exact G.sl _ (by simp) hsz); (· exact G.sl _ (by simp) htz); (· exact G.tab _ HT.out); rintro e w1 ⟨rfl, hb⟩; obtain ⟨g1, rfl⟩ := G.call_ex _ hb; clear hb; (try clear g); revert g1; intro g))
  all_goals (first | ((try simp only [G.drew_eq, G.drewN_eq]); (refine G.any_mark _ ?_; (try clear g); intro g)) | skip)
  all_goals go_wp2_with (with_reducible refine G.any_mark _ ?_; (try generalize Array.size (World.heap (G.w _)) = bk); (try dsimp only [List.set_cons_zero, List.set_cons_succ]); (try clear g); intro g)
  go_ret
  exact ⟨rfl, G.below _⟩)))))
set_option maxRecDepth 20000 in
set_option maxHeartbeats 8000000 in
theorem rounds_half (A1 : Option Addr) (c1 : Nat) (l1 : List Nat) (neg : Bool) (w : World) (h1 : SlW w A1 c1 l1) (hT : Tab w) :
    Calls Tryd.prog 5 #[.slice A1 l1.length c1, .bool neg, .bool true] w fun e w' => e = .returned (.bool true) ∧ Below w.heap.size w w' := by
  refine calls_b fun g => ?_
  have CL := Lib.hid llives_x
  have CV1 := Lib.hid (fun s w h => lvalid_x A1 c1 l1 s w h)
  unfold RNf at CV1
  have HO1 := Lib.hid h1.ok
  have H1 := Lib.hid h1
  have HT := Lib.hid hT
  clear h1 hT
  generalize l1.length = n1 at *
  go_enter Tryd.func5, Tryd.ntmps5
  go_wp2_with (with_reducible refine G.any_mark _ ?_; (try generalize Array.size (World.heap (G.w _)) = bk); (try dsimp only [List.set_cons_zero, List.set_cons_succ]); (try clear g); intro g)
  refine (CL.out _ (G.tab g HT.out)).mono ?_
  rintro e w1 ⟨rfl, hb⟩
  obtain ⟨g1, rfl⟩ := G.call_ex _ hb
  clear hb
  (try clear g)
  revert g1
  intro g
  go_wp2_with (with_reducible refine G.any_mark _ ?_; (try generalize Array.size (World.heap (G.w _)) = bk); (try dsimp only [List.set_cons_zero, List.set_cons_succ]); (try clear g); intro g)
  refine (CV1.out neg _ (G.sl g (by simp) H1.out)).mono ?_
  rintro e w1 ⟨Aa, ca, Fa, Ba, da, Ha, rfl, hsa, hta, hn, hm⟩
  have hnna := fun k o hk => Nat.le_trans g.chg.size (hn.new k o hk)
  have hmma := fun k o hk => Nat.le_trans g.chg.size (hm.new k o hk)
  obtain ⟨g1, rfl⟩ := G.new2_ex _ hn hm
  clear hn hm
  (try clear g)
  revert g1
  intro g
  obtain ⟨k0, k1, k2, k3⟩ := frac_lits
  obtain ⟨z0, y0⟩ : ∃ z : Rat, 0 = z := ⟨_, rfl⟩
  obtain ⟨z1, y1⟩ : ∃ z : Rat, 1 = z := ⟨_, rfl⟩
  obtain ⟨zh, yh⟩ : ∃ z : Rat, 1 / 2 = z := ⟨_, rfl⟩
  obtain ⟨zm, ym⟩ : ∃ z : Rat, -(1 / 2) = z := ⟨_, rfl⟩
  rw [y0] at k0
  rw [y1] at k1
  rw [ym] at k3
  rw [yh] at k2
  have EO0 : Hid (frac (decide ((0 : Int) < 0) != decide ((1 : Int) < 0)) (0 : Int).natAbs (1 : Int).natAbs = z0) := Lib.hid (by exact k0)
  have EO1 : Hid (frac (decide ((1 : Int) < 0) != decide ((1 : Int) < 0)) (1 : Int).natAbs (1 : Int).natAbs = z1) := Lib.hid (by exact k1)
  have EOh : Hid (frac (decide ((1 : Int) < 0) != decide ((2 : Int) < 0)) (1 : Int).natAbs (2 : Int).natAbs = zh) := Lib.hid (by exact k2)
  have EOm : Hid (frac (decide ((-1 : Int) < 0) != decide ((2 : Int) < 0)) (-1 : Int).natAbs (2 : Int).natAbs = zm) := Lib.hid (by exact k3)
  have HBz0 : Hid (Bd 8192 z0) := Lib.hid (by rw [← k0]; exact bd_lit _ (by decide) (by decide) (by decide))
  have HBz1 : Hid (Bd 8192 z1) := Lib.hid (by rw [← k1]; exact bd_lit _ (by decide) (by decide) (by decide))
  have hbh : Bd 4 zh := by rw [← k2]; exact Bd.frac _ (by decide) (by decide) (by decide)
  have HBzh : Hid (Bd 8192 zh) := Lib.hid (hbh.mono (by decide))
  have HBzm : Hid (Bd 8192 zm) := Lib.hid (by rw [← ym]; rw [← yh] at hbh; exact Bd.mono hbh.neg (by decide))
  clear k0 k1 k2 k3
  have CO0 : Hid (∀ w, Calls Tryd.prog 17 #[.int .i64 0, .int .i64 1] w (RNf z0 w)) := Lib.hid (fun w => lof_x 0 1 z0 (by decide) EO0.out (by decide) (by decide) (by decide) (by decide) w)
  have CO1 : Hid (∀ w, Calls Tryd.prog 17 #[.int .i64 1, .int .i64 1] w (RNf z1 w)) := Lib.hid (fun w => lof_x 1 1 z1 (by decide) EO1.out (by decide) (by decide) (by decide) (by decide) w)
  have COh : Hid (∀ w, Calls Tryd.prog 17 #[.int .i64 1, .int .i64 2] w (RNf zh w)) := Lib.hid (fun w => lof_x 1 2 zh (by decide) EOh.out (by decide) (by decide) (by decide) (by decide) w)
  have COm : Hid (∀ w, Calls Tryd.prog 17 #[.int .i64 (-1), .int .i64 2] w (RNf zm w)) := Lib.hid (fun w => lof_x (-1) 2 zm (by decide) EOm.out (by decide) (by decide) (by decide) (by decide) w)
  clear EO0 EO1 EOh EOm
  obtain ⟨b, hb, hbb⟩ : ∃ b, vq neg l1 = b ∧ Bd 288 b := ⟨_, rfl, vq_bd _ HO1.out⟩
  rw [hb] at hsa hta ⊢
  clear hb CV1 CL HO1 H1
  have hhf := half_facts b.floor
  rw [ym, yh] at hhf
  have hbf : Bd 289 (b.floor : Rat) := hbb.floor
  obtain ⟨y, k1⟩ : ∃ y : Rat, (b.floor : Rat) = y := ⟨_, rfl⟩
  rw [k1] at hhf hbf
  obtain ⟨a, k2⟩ : ∃ a : Rat, y + zh = a := ⟨_, rfl⟩
  rw [k2] at hhf
  have hba : Bd 900 a := by rw [← k2]; exact (hbf.add hbh).mono (by decide)
  have K1 := Lib.hid k1
  have K2 := Lib.hid k2
  have HB4 := Lib.hid (hbb.mono (show 288 ≤ 8191 by decide))
  have HBy := Lib.hid (hbf.mono (show 289 ≤ 8192 by decide))
  clear k1 k2 hbb hbf
  obtain ⟨v1, v2, v3, v4⟩ := round_facts a
  rw [y0] at v1
  rw [y1] at v2
  rw [ym] at v4
  rw [yh] at v3
  obtain ⟨f, e1⟩ : ∃ x : Rat, (a.floor : Rat) = x := ⟨_, rfl⟩
  obtain ⟨r, e2⟩ : ∃ x : Rat, ((rndz a : Int) : Rat) = x := ⟨_, rfl⟩
  obtain ⟨m, e3⟩ : ∃ x : Rat, -a = x := ⟨_, rfl⟩
  obtain ⟨o, e4⟩ : ∃ x : Rat, ((rndz m : Int) : Rat) = x := ⟨_, rfl⟩
  have e5 : -o = r := by rw [← e4, ← e3, rnd_neg, Rat.intCast_neg, ← e2]; exact Rat.neg_neg _
  have hfd : f.den = 1 := by rw [← e1]; exact Rat.den_intCast _
  have hrd : r.den = 1 := by rw [← e2]; exact Rat.den_intCast _
  obtain ⟨rest, e6⟩ : ∃ x : Rat, a - f = x := ⟨_, rfl⟩
  obtain ⟨off, e7⟩ : ∃ x : Rat, r - a = x := ⟨_, rfl⟩
  rw [e1, e6] at v1 v2
  rw [e2, e7] at v3 v4
  have hf : Bd 901 f := by rw [← e1]; exact hba.floor
  have hr : Bd 903 r := by rw [← e2]; exact hba.rnd
  have hm : Bd 900 m := by rw [← e3]; exact hba.neg
  have ho : Bd 903 o := by rw [← e4]; exact hm.rnd
  have hrest : Bd 1802 rest := by rw [← e6]; exact hba.sub hf
  have hoff : Bd 1804 off := by rw [← e7]; exact hr.sub hba
  obtain ⟨zl, HZL⟩ : ∃ z, Hid (sgz (rest - z0) = z) := ⟨_, Lib.hid rfl⟩
  obtain ⟨zg, HZG⟩ : ∃ z, Hid (sgz (rest - z1) = z) := ⟨_, Lib.hid rfl⟩
  obtain ⟨zu, HZU⟩ : ∃ z, Hid (sgz (off - zh) = z) := ⟨_, Lib.hid rfl⟩
  obtain ⟨zd, HZD⟩ : ∃ z, Hid (sgz (off - zm) = z) := ⟨_, Lib.hid rfl⟩
  rw [HZL.out] at v1
  rw [HZG.out] at v2
  rw [HZU.out] at v3
  rw [HZD.out] at v4
  have v2 : ¬ 0 ≤ zg := by omega
  rw [e2, e7, HZU.out, HZD.out] at hhf
  have HBa := Lib.hid (hba.mono (show 900 ≤ 8192 by decide))
  have HBf := Lib.hid (hf.mono (show 901 ≤ 8192 by decide))
  have HBr := Lib.hid (hr.mono (show 903 ≤ 8192 by decide))
  have HBm := Lib.hid (hm.mono (show 900 ≤ 8192 by decide))
  have HBo := Lib.hid (ho.mono (show 903 ≤ 8192 by decide))
  have HBrest := Lib.hid (hrest.mono (show 1802 ≤ 8192 by decide))
  have HBoff := Lib.hid (hoff.mono (show 1804 ≤ 8192 by decide))
  have HB1 := Lib.hid (hba.mono (show 900 ≤ 8191 by decide))
  have HB2 := Lib.hid (hba.mono (show 900 ≤ 8189 by decide))
  have HB3 := Lib.hid (hm.mono (show 900 ≤ 8189 by decide))
  have E1 := Lib.hid e1
  have E2 := Lib.hid e2
  have E3 := Lib.hid e3
  have E4 := Lib.hid e4
  have E5 := Lib.hid e5
  have E6 := Lib.hid e6
  have E7 := Lib.hid e7
  have HFD := Lib.hid hfd
  have HRD := Lib.hid hrd
  have C0 := Lib.hid (fun A1 B1 A2 B2 c1 k1 c2 k2 w h1 j1 h2 j2 t => qCmp_x A1 B1 A2 B2 c1 k1 c2 k2 rest z0 zl HBrest.out HBz0.out HZL.out w h1 j1 h2 j2 t)
  have C1 := Lib.hid (fun A1 B1 A2 B2 c1 k1 c2 k2 w h1 j1 h2 j2 t => qCmp_x A1 B1 A2 B2 c1 k1 c2 k2 rest z1 zg HBrest.out HBz1.out HZG.out w h1 j1 h2 j2 t)
  have C2 := Lib.hid (fun A1 B1 A2 B2 c1 k1 c2 k2 w h1 j1 h2 j2 t => qCmp_x A1 B1 A2 B2 c1 k1 c2 k2 off zh zu HBoff.out HBzh.out HZU.out w h1 j1 h2 j2 t)
  have C3 := Lib.hid (fun A1 B1 A2 B2 c1 k1 c2 k2 w h1 j1 h2 j2 t => qCmp_x A1 B1 A2 B2 c1 k1 c2 k2 off zm zd HBoff.out HBzm.out HZD.out w h1 j1 h2 j2 t)
  have n1 : Hid ((limbs 1).length = 1 ∧ [Value.int .u32 1] = u32s (limbs 1)) := Lib.hid ⟨by rw [limbs_one (by decide) (by decide)]; rfl, by rw [limbs_one (by decide) (by decide)]; rfl⟩
  clear e1 e2 e3 e4 e5 e6 e7 hfd hrd hf hr hm ho hrest hoff hba HZL HZG HZU HZD hbh
  have CA := Lib.hid (fun A1 B1 A2 B2 c1 k1 c2 k2 w h1 j1 h2 j2 t => qAdd_x A1 B1 A2 B2 c1 k1 c2 k2 y zh a HBy.out HBzh.out HBa.out K2.out w h1 j1 h2 j2 t)
  have HHF := Lib.hid hhf
  clear hhf
  go_wp2_with (with_reducible refine G.any_mark _ ?_; (try generalize Array.size (World.heap (G.w _)) = bk); (try dsimp only [List.set_cons_zero, List.set_cons_succ]); (try clear g); intro g)
  (try (refine cmark _ ?_; (try dsimp only [List.set_cons_zero, List.set_cons_succ]); (try clear g); intro g))
  refine (qFloor_x _ _ _ _ b y HB4.out K1.out _ (G.sl g (by simp) hsa) (G.sl g (by simp) hta) (G.tab g HT.out)).mono ?_
  rintro e w1 ⟨Ab, cb, Fb, Bb, db, Hb, rfl, hsb, htb, hn, hm⟩
  have hnnb := fun k o hk => Nat.le_trans g.chg.size (hn.new k o hk)
  have hmmb := fun k o hk => Nat.le_trans g.chg.size (hm.new k o hk)
  obtain ⟨g1, rfl⟩ := G.new2_ex _ hn hm
  clear hn hm
  (try clear g)
  revert g1
  intro g
  go_wp2_with (with_reducible refine G.any_mark _ ?_; (try generalize Array.size (World.heap (G.w _)) = bk); (try dsimp only [List.set_cons_zero, List.set_cons_succ]); (try clear g); intro g)
  all_goals (first | ((try simp only [G.drew_eq, G.drewN_eq]); (refine G.any_mark _ ?_; (try clear g); intro g)) | skip)
  all_goals go_region_held3 (G.heldN g [true, false]) (simp [G.heldN, HeldN, go_sem]) (first
      | (go_at_call 17; (with_reducible refine (COh.out _).mono ?_); rintro e w1 ⟨Ah, ch, Fh, Bh, dh, Hh, rfl, hsh, hth, hnq, hmq⟩; obtain ⟨g1, rfl⟩ := G.new2_ex _ hnq hmq; clear hnq hmq; (try clear g); revert g1; intro g)
      | (go_at_call 9; (with_reducible refine (CA.out _ _ _ _ _ _ _ _ _ ?_ ?_ ?_ ?_ ?_).mono ?_); (· exact G.sl _ (by simp) hsb); (· exact G.sl _ (by simp) htb); (· exact G.sl _ (by simp) hsh); (· exact G.sl _ (by simp) hth); (· exact G.tab _ HT.out); rintro e w1 ⟨Ac, cc, Fc, Bc, dc, Hc, rfl, hsc, htc, hnc, hmc⟩; obtain ⟨g1, rfl⟩ := G.new2_ex _ hnc hmc; clear hnc hmc; (try clear g); revert g1; intro g))
  all_goals (first | ((try simp only [G.drew_eq, G.drewN_eq]); (refine G.any_mark _ ?_; (try clear g); intro g)) | skip)
  all_goals go_wp2_with (with_reducible refine G.any_mark _ ?_; (try generalize Array.size (World.heap (G.w _)) = bk); (try dsimp only [List.set_cons_zero, List.set_cons_succ]); (try clear g); intro g)
  all_goals (as_aux_lemma =>
  (try (refine cmark _ ?_; (try dsimp only [List.set_cons_zero, List.set_cons_succ]); (try clear g); intro g))
  refine (qFloor_x _ _ _ _ a f HB1.out E1.out _ (G.sl g (by simp) hsc) (G.sl g (by simp) htc) (G.tab g HT.out)).mono ?_
  rintro e w1 ⟨Af, cf, Ff, Bf, df, Hf, rfl, hsf, htf, hn, hm⟩
  have hnnf := fun k o hk => Nat.le_trans g.chg.size (hn.new k o hk)
  have hmmf := fun k o hk => Nat.le_trans g.chg.size (hm.new k o hk)
  obtain ⟨g1, rfl⟩ := G.new2_ex _ hn hm
  clear hn hm
  (try clear g)
  revert g1
  intro g
  go_wp2_with (with_reducible refine G.any_mark _ ?_; (try generalize Array.size (World.heap (G.w _)) = bk); (try dsimp only [List.set_cons_zero, List.set_cons_succ]); (try clear g); intro g)
  (try (refine cmark _ ?_; (try dsimp only [List.set_cons_zero, List.set_cons_succ]); (try clear g); intro g))
  refine (qRound_x _ _ _ _ a r HB2.out E2.out _ (G.sl g (by simp) hsc) (G.sl g (by simp) htc) (G.tab g HT.out)).mono ?_
  rintro e w1 ⟨Ar, cr, Fr, Br, dr, Hr, rfl, hsr, htr, hn, hm⟩
  have hnnr := fun k o hk => Nat.le_trans g.chg.size (hn.new k o hk)
  have hmmr := fun k o hk => Nat.le_trans g.chg.size (hm.new k o hk)
  obtain ⟨g1, rfl⟩ := G.new2_ex _ hn hm
  clear hn hm
  (try clear g)
  revert g1
  intro g
  go_wp2_with (with_reducible refine G.any_mark _ ?_; (try generalize Array.size (World.heap (G.w _)) = bk); (try dsimp only [List.set_cons_zero, List.set_cons_succ]); (try clear g); intro g)
  (try (refine cmark _ ?_; (try dsimp only [List.set_cons_zero, List.set_cons_succ]); (try clear g); intro g))
  refine (qNeg_x _ _ _ _ a m HBa.out E3.out _ (G.sl g (by simp) hsc) (G.sl g (by simp) htc) (G.tab g HT.out)).mono ?_
  rintro e w1 ⟨Am, cm, Fm, Bm, dm, Hm, rfl, hsm, htm, hn, hm⟩
  have hnnm := fun k o hk => Nat.le_trans g.chg.size (hn.new k o hk)
  have hmmm := fun k o hk => Nat.le_trans g.chg.size (hm.new k o hk)
  obtain ⟨g1, rfl⟩ := G.new2_ex _ hn hm
  clear hn hm
  (try clear g)
  revert g1
  intro g
  go_wp2_with (with_reducible refine G.any_mark _ ?_; (try generalize Array.size (World.heap (G.w _)) = bk); (try dsimp only [List.set_cons_zero, List.set_cons_succ]); (try clear g); intro g)
  (as_aux_lemma =>
  (try (refine cmark _ ?_; (try dsimp only [List.set_cons_zero, List.set_cons_succ]); (try clear g); intro g))
  refine (qRound_x _ _ _ _ m o HB3.out E4.out _ (G.sl g (by simp) hsm) (G.sl g (by simp) htm) (G.tab g HT.out)).mono ?_
  rintro e w1 ⟨Aoo, coo, Foo, Boo, doo, Hoo, rfl, hsoo, htoo, hn, hm⟩
  have hnnoo := fun k o hk => Nat.le_trans g.chg.size (hn.new k o hk)
  have hmmoo := fun k o hk => Nat.le_trans g.chg.size (hm.new k o hk)
  obtain ⟨g1, rfl⟩ := G.new2_ex _ hn hm
  clear hn hm
  (try clear g)
  revert g1
  intro g
  go_wp2_with (with_reducible refine G.any_mark _ ?_; (try generalize Array.size (World.heap (G.w _)) = bk); (try dsimp only [List.set_cons_zero, List.set_cons_succ]); (try clear g); intro g)
  (try (refine cmark _ ?_; (try dsimp only [List.set_cons_zero, List.set_cons_succ]); (try clear g); intro g))
  refine (qNeg_x _ _ _ _ o r HBo.out E5.out _ (G.sl g (by simp) hsoo) (G.sl g (by simp) htoo) (G.tab g HT.out)).mono ?_
  rintro e w1 ⟨Ap, cp, Fp, Bp, dp, Hp, rfl, hsp, htp, hn, hm⟩
  have hnnp := fun k o hk => Nat.le_trans g.chg.size (hn.new k o hk)
  have hmmp := fun k o hk => Nat.le_trans g.chg.size (hm.new k o hk)
  obtain ⟨g1, rfl⟩ := G.new2_ex _ hn hm
  clear hn hm
  (try clear g)
  revert g1
  intro g
  go_wp2_with (with_reducible refine G.any_mark _ ?_; (try generalize Array.size (World.heap (G.w _)) = bk); (try dsimp only [List.set_cons_zero, List.set_cons_succ]); (try clear g); intro g)
  (try (refine cmark _ ?_; (try dsimp only [List.set_cons_zero, List.set_cons_succ]); (try clear g); intro g))
  refine (qSub_x _ _ _ _ _ _ _ _ a f rest HBa.out HBf.out HBrest.out E6.out _ (G.sl g (by simp) hsc) (G.sl g (by simp) htc) (G.sl g (by simp) hsf) (G.sl g (by simp) htf) (G.tab g HT.out)).mono ?_
  rintro e w1 ⟨At, ct, Ft, Bt, dt, Ht, rfl, hst, htt, hn, hm⟩
  have hnnt := fun k o hk => Nat.le_trans g.chg.size (hn.new k o hk)
  have hmmt := fun k o hk => Nat.le_trans g.chg.size (hm.new k o hk)
  obtain ⟨g1, rfl⟩ := G.new2_ex _ hn hm
  clear hn hm
  (try clear g)
  revert g1
  intro g
  go_wp2_with (with_reducible refine G.any_mark _ ?_; (try generalize Array.size (World.heap (G.w _)) = bk); (try dsimp only [List.set_cons_zero, List.set_cons_succ]); (try clear g); intro g)
  (as_aux_lemma =>
  all_goals (first | ((try simp only [G.drew_eq, G.drewN_eq]); (refine G.any_mark _ ?_; (try clear g); intro g)) | skip)
  all_goals go_region_held3 (G.heldN g [true, false, false, false, false, false, false, false, false]) (simp [G.heldN, HeldN, go_sem]) (first
      | (go_at_call 17; (with_reducible refine (CO0.out _).mono ?_); rintro e w1 ⟨Au, cu, Fu, Bu, du, Hu, rfl, hsu, htu, hnq, hmq⟩; obtain ⟨g1, rfl⟩ := G.new2_ex _ hnq hmq; clear hnq hmq; (try clear g); revert g1; intro g)
      | (go_at_call 15; (with_reducible refine (C0.out _ _ _ _ _ _ _ _ _ ?_ ?_ ?_ ?_ ?_).mono ?_); (· exact G.sl _ (by simp) hst); (· exact G.sl _ (by simp) htt); (· exact G.sl _ (by simp) hsu); (· exact G.sl _ (by simp) htu); (· exact G.tab _ HT.out); rintro e w1 ⟨rfl, hb⟩; obtain ⟨g1, rfl⟩ := G.call_ex _ hb; clear hb; (try clear g); revert g1; intro g))
  all_goals (first | ((try simp only [G.drew_eq, G.drewN_eq]); (refine G.any_mark _ ?_; (try clear g); intro g)) | skip)
  all_goals go_wp2_with (with_reducible refine G.any_mark _ ?_; (try generalize Array.size (World.heap (G.w _)) = bk); (try dsimp only [List.set_cons_zero, List.set_cons_succ]); (try clear g); intro g)
  all_goals (first | ((try simp only [G.drew_eq, G.drewN_eq]); (refine G.any_mark _ ?_; (try clear g); intro g)) | skip)
  all_goals go_region_held3 (G.heldN g [true, false, false, false, false, false, false, false, false]) (simp [G.heldN, HeldN, go_sem]) (first
      | (go_at_call 17; (with_reducible refine (CO1.out _).mono ?_); rintro e w1 ⟨Av, cv, Fv, Bv, dv, Hv, rfl, hsv, htv, hnq, hmq⟩; obtain ⟨g1, rfl⟩ := G.new2_ex _ hnq hmq; clear hnq hmq; (try clear g); revert g1; intro g)
      | (go_at_call 15; (with_reducible refine (C1.out _ _ _ _ _ _ _ _ _ ?_ ?_ ?_ ?_ ?_).mono ?_); (· exact G.sl _ (by simp) hst); (· exact G.sl _ (by simp) htt); (· exact G.sl _ (by simp) hsv); (· exact G.sl _ (by simp) htv); (· exact G.tab _ HT.out); rintro e w1 ⟨rfl, hb⟩; obtain ⟨g1, rfl⟩ := G.call_ex _ hb; clear hb; (try clear g); revert g1; intro g))
  all_goals (first | ((try simp only [G.drew_eq, G.drewN_eq]); (refine G.any_mark _ ?_; (try clear g); intro g)) | skip)
  all_goals go_wp2_with (with_reducible refine G.any_mark _ ?_; (try generalize Array.size (World.heap (G.w _)) = bk); (try dsimp only [List.set_cons_zero, List.set_cons_succ]); (try clear g); intro g)
  (as_aux_lemma =>
  (try (refine cmark _ ?_; (try dsimp only [List.set_cons_zero, List.set_cons_succ]); (try clear g); intro g))
  refine (qSub_x _ _ _ _ _ _ _ _ r a off HBr.out HBa.out HBoff.out E7.out _ (G.sl g (by simp) hsr) (G.sl g (by simp) htr) (G.sl g (by simp) hsc) (G.sl g (by simp) htc) (G.tab g HT.out)).mono ?_
  rintro e w1 ⟨Ax, cx, Fx, Bx, dx, Hx, rfl, hsx, htx, hn, hm⟩
  have hnnx := fun k o hk => Nat.le_trans g.chg.size (hn.new k o hk)
  have hmmx := fun k o hk => Nat.le_trans g.chg.size (hm.new k o hk)
  obtain ⟨g1, rfl⟩ := G.new2_ex _ hn hm
  clear hn hm
  (try clear g)
  revert g1
  intro g
  go_wp2_with (with_reducible refine G.any_mark _ ?_; (try generalize Array.size (World.heap (G.w _)) = bk); (try dsimp only [List.set_cons_zero, List.set_cons_succ]); (try clear g); intro g)
  (try (refine cmark _ ?_; (try dsimp only [List.set_cons_zero, List.set_cons_succ]); (try clear g); intro g))
  refine (lsame_x _ _ _ _ _ _ _ _ r _ (G.sl g (by simp) hsr) (G.sl g (by simp) htr) (G.sl g (by simp) hsp) (G.sl g (by simp) htp)).mono ?_
  rintro e w1 ⟨rfl, hb⟩
  obtain ⟨g1, rfl⟩ := G.call_ex _ hb
  clear hb
  (try clear g)
  revert g1
  intro g
  go_wp2_with (with_reducible refine G.any_mark _ ?_; (try generalize Array.size (World.heap (G.w _)) = bk); (try dsimp only [List.set_cons_zero, List.set_cons_succ]); (try clear g); intro g)
  (try (refine cmark _ ?_; (try dsimp only [List.set_cons_zero, List.set_cons_succ]); (try clear g); intro g))
  refine (same_one _ _ _ _ _ f HFD.out rfl _ (G.sl g (by simp) htf) (G.lit0 g _ _ n1.out.2 n1.out.1 (by decide))).mono ?_
  rintro e w1 ⟨rfl, hb⟩
  obtain ⟨g1, rfl⟩ := G.call_ex _ hb
  clear hb
  (try clear g)
  revert g1
  intro g
  go_wp2_with (with_reducible refine G.any_mark _ ?_; (try generalize Array.size (World.heap (G.w _)) = bk); (try dsimp only [List.set_cons_zero, List.set_cons_succ]); (try clear g); intro g)
  (try (refine cmark _ ?_; (try dsimp only [List.set_cons_zero, List.set_cons_succ]); (try clear g); intro g))
  refine (same_one _ _ _ _ _ r HRD.out rfl _ (G.sl g (by simp) htr) (G.lit0 g _ _ n1.out.2 n1.out.1 (by decide))).mono ?_
  rintro e w1 ⟨rfl, hb⟩
  obtain ⟨g1, rfl⟩ := G.call_ex _ hb
  clear hb
  (try clear g)
  revert g1
  intro g
  go_wp2_with (with_reducible refine G.any_mark _ ?_; (try generalize Array.size (World.heap (G.w _)) = bk); (try dsimp only [List.set_cons_zero, List.set_cons_succ]); (try clear g); intro g)
  (as_aux_lemma =>
  all_goals (first | ((try simp only [G.drew_eq, G.drewN_eq]); (refine G.any_mark _ ?_; (try clear g); intro g)) | skip)
  all_goals go_region_held3 (G.heldN g [false, false, true, false, false, false, false, false, false, false, false, false]) (simp [G.heldN, HeldN, go_sem]) (first
      | (go_at_call 17; (with_reducible refine (COh.out _).mono ?_); rintro e w1 ⟨Ay, cy, Fy, By, dy, Hy, rfl, hsy, hty, hnq, hmq⟩; obtain ⟨g1, rfl⟩ := G.new2_ex _ hnq hmq; clear hnq hmq; (try clear g); revert g1; intro g)
      | (go_at_call 15; (with_reducible refine (C2.out _ _ _ _ _ _ _ _ _ ?_ ?_ ?_ ?_ ?_).mono ?_); (· exact G.sl _ (by simp) hsx); (· exact G.sl _ (by simp) htx); (· exact G.sl _ (by simp) hsy); (· exact G.sl _ (by simp) hty); (· exact G.tab _ HT.out); rintro e w1 ⟨rfl, hb⟩; obtain ⟨g1, rfl⟩ := G.call_ex _ hb; clear hb; (try clear g); revert g1; intro g))
  all_goals (first | ((try simp only [G.drew_eq, G.drewN_eq]); (refine G.any_mark _ ?_; (try clear g); intro g)) | skip)
  all_goals go_wp2_with (with_reducible refine G.any_mark _ ?_; (try generalize Array.size (World.heap (G.w _)) = bk); (try dsimp only [List.set_cons_zero, List.set_cons_succ]); (try clear g); intro g)
  all_goals (first | ((try simp only [G.drew_eq, G.drewN_eq]); (refine G.any_mark _ ?_; (try clear g); intro g)) | skip)
  all_goals go_region_held3 (G.heldN g [false, false, true, false, false, false, false, false, false, false, false, false]) (simp [G.heldN, HeldN, go_sem]) (first
      | (go_at_call 17; (with_reducible refine (COm.out _).mono ?_); rintro e w1 ⟨Az, cz, Fz, Bz, dz, Hz, rfl, hsz, htz, hnq, hmq⟩; obtain ⟨g1, rfl⟩ := G.new2_ex _ hnq hmq; clear hnq hmq; (try clear g); revert g1; intro g)
      | (go_at_call 15; (with_reducible refine (C3.out _ _ _ _ _ _ _ _ _ ?_ ?_ ?_ ?_ ?_).mono ?_); (· exact G.sl _ (by simp) hsx); (· exact G.sl _ (by simp) htx); (· exact G.sl _ (by simp) hsz); (· exact G.sl _ (by simp) htz); (· exact G.tab _ HT.out); rintro e w1 ⟨rfl, hb⟩; obtain ⟨g1, rfl⟩ := G.call_ex _ hb; clear hb; (try clear g); revert g1; intro g))
  all_goals (first | ((try simp only [G.drew_eq, G.drewN_eq]); (refine G.any_mark _ ?_; (try clear g); intro g)) | skip)
  have hhf := HHF.out
  clear HHF
  obtain ⟨u1, u2⟩ := hhf
  rcases Bool.eq_false_or_eq_true (rneg a) with hs | hs
  all_goals
    rw [hs] at u1 u2
    simp only [if_true, Bool.false_eq_true, if_false] at u1 u2
    subst u1
    subst u2
    go_wp2_with (with_reducible refine G.any_mark _ ?_; (try generalize Array.size (World.heap (G.w _)) = bk); (try dsimp only [List.set_cons_zero, List.set_cons_succ]); (try clear g); intro g)
    go_ret
    exact ⟨rfl, G.below _⟩)))))
theorem rounds_walk (A1 : Option Addr) (c1 : Nat) (l1 : List Nat) (neg half : Bool) (w : World) (h1 : SlW w A1 c1 l1) (hT : Tab w) :
    Calls Tryd.prog 5 #[.slice A1 l1.length c1, .bool neg, .bool half] w fun e w' => e = .returned (.bool true) ∧ Below w.heap.size w w' := by
  cases half
  · exact rounds_no A1 c1 l1 neg w h1 hT
  · exact rounds_half A1 c1 l1 neg w h1 hT
end Go.Proofs.YtjdnpkicdmapnaaDoor
