/- Plain facts and contracts of functions of the program, out of walks. Their conditions stand ahead of each. -/
import Derived.Test.YthhbbnfnejjpiaaGreatDoorIv1
import Derived.Test.YthhbbnfnejjpiaaGreatDoorIv2
import Derived.Test.YthhbbnfnejjpiaaGreatDoorIv4
import Derived.Test.YthhbbnfnejjpiaaGreatDoorIv15
import Derived.Test.YthhbbnfnejjpiaaGreatDoorIv16
import Derived.Test.YthhbbnfnejjpiaaGreatDoorIv19
import Derived.Test.YthhbbnfnejjpiaaGreatDoorIv24
import Derived.Below
import Derived.BigQuiet
import Derived.Deep.Draws
import Derived.Deep.LoopGhost
import Derived.Deep.QuietTactic
import Derived.Deep.RegionHeld3
import Derived.Deep.RegionLaw
import Derived.Defers
import Derived.Laws.BytesString
import Derived.Laws.Cells
import Derived.Laws.CopyOwn
import Derived.Laws.CopyRow
import Derived.Laws.NewBlocks
import Derived.Laws.OwnMore
import Derived.Laws.Pointers
import Derived.Laws.Rows
import Derived.Lib.BitFns
import Derived.Lib.Hide
import Derived.Lib.ItoaNum
import Derived.Lib.TrailingZeros
import Derived.LoopIn
import Derived.LoopNIn
import Derived.Maps.AppendAt
import Derived.OrdersIn
import Derived.OwnWalk
import Derived.OwnWalkIn
import Derived.RangeFuncBound
import Derived.RangeFuncBox
import Derived.RangeFuncCalls
import Derived.RangeFuncLeaves
import Derived.RangeFuncNested
import Derived.RowKit3
import Derived.Shelf.Abstract
import Derived.Shelf.RegionOpen
import Derived.Shelf.Spec.TrailingZeros
import Derived.StillTactics
import Derived.StillTailTactics
import Derived.TacticsInMore
import Derived.Test.YthhbbnfnejjpiaaGreatDoorProg
import Derived.WalkKit
import Derived.WalkLawsBesides
import Derived.WalkMore
import Derived.WalkSpells
set_option linter.unusedVariables false
set_option linter.unusedSimpArgs false
set_option exponentiation.threshold 10000
namespace Go.Proofs.YthhbbnfnejjpiaaGreatDoor
open Go.RowKit GW NL
set_option maxRecDepth 20000 in
set_option maxHeartbeats 4000000 in
theorem rLow_any (s : Bool) (A1 A2 : Option Addr) (c1 c2 n d : Nat) (w : World) (h1 : SlW w A1 c1 (limbs n)) (h2 : SlW w A2 c2 (limbs d)) (hl1 : (limbs n).length ≤ 10000000) (hl2 : (limbs d).length ≤ 10000000) (hd : d ≠ 0) :
  Calls Tryz.prog 96 #[.bool s, .slice A1 (limbs n).length c1, .slice A2 (limbs d).length c2] w (RNf (frac s n d) w) := by
 refine calls_b fun g => ?_
 have H1 := Lib.hid h1
 have H2 := Lib.hid h2
 have CI := Lib.hid (fun w h => isone_any A2 c2 d w h)
 have CG := Lib.hid (fun F w hF h1 h2 => rgcd_any F A1 A2 c1 c2 n d w hF h1 h2 (by omega) (by omega))
 unfold RNf
 rw [frac_rneg s hd, frac_rn s hd, frac_den s hd]
 obtain ⟨G', hG⟩ : ∃ G', Nat.gcd n d = G' := ⟨_, rfl⟩
 rw [hG] at CG ⊢
 have hG0 : G' ≠ 0 := by rw [← hG]; exact Nat.ne_of_gt (Nat.gcd_pos_of_pos_right n (Nat.pos_of_ne_zero hd))
 have hgl : (limbs G').length ≤ 10000000 := Nat.le_trans (limbs_len_mono (by rw [← hG]; exact Nat.gcd_le_right n (Nat.pos_of_ne_zero hd))) hl2
 have CIG := Lib.hid (fun A c w h => isone_any A c G' w h)
 have CQ1 := Lib.hid (fun A c w h1 h2 => rquot_any A1 A c1 c n G' w h1 h2 hl1 hgl hG0)
 have CQ2 := Lib.hid (fun A c w h1 h2 => rquot_any A2 A c2 c d G' w h1 h2 hl2 hgl hG0)
 have hle1 : (limbs (n / G')).length ≤ 10000000 := Nat.le_trans (limbs_len_mono (Nat.div_le_self _ _)) hl1
 have hle2 : (limbs (d / G')).length ≤ 10000000 := Nat.le_trans (limbs_len_mono (Nat.div_le_self _ _)) hl2
 have COn := Lib.hid (fun A c w h => own_any A c (limbs (n / G')) w h (by omega))
 have COd := Lib.hid (fun A c w h => own_any A c (limbs (d / G')) w h (by omega))
 have hn0 : (n ≠ 0 ↔ 0 < (limbs (n / G')).length) := by
  have hq : n / G' = 0 ↔ n = 0 := by
   rw [← hG]
   constructor
   ·intro h
    have := Nat.div_mul_cancel (Nat.gcd_dvd_left n d)
    rw [h, Nat.zero_mul] at this
    exact this.symm
   ·rintro rfl; exact Nat.zero_div _
  constructor
  ·intro h; exact (limbs_ne (fun h2 => h (hq.1 h2))).2
  ·rintro h rfl; rw [Nat.zero_div, limbs_len0] at h; omega
 obtain ⟨bb, hbb⟩ : ∃ bb, (s && decide (n ≠ 0)) = bb := ⟨_, rfl⟩
 rw [hbb]
 have hbb2 : (s && decide ((0 : Int) < ((limbs (n / G')).length : Int))) = bb := by
  rw [← hbb]; congr 1; exact decide_eq_decide.2 ⟨fun h => hn0.2 (by omega), fun h => by have := hn0.1 h; omega⟩
 unfold RLim at COn COd
 unfold RNN at CQ1 CQ2
 by_cases hG1 : G' = 1
 ·-- nothing in common
  rw [decide_eq_true hG1] at CIG
  subst hG1
  rw [Nat.div_one] at COn COd hbb2 ⊢
  rw [Nat.div_one]
  generalize (limbs n).length = ln at *
  generalize hld : (limbs d).length = ld at *
  clear hle1 hle2 hn0 hbb CQ1 CQ2 hgl hG0 hG h1 h2
  have hbs : (s = false ∧ bb = false) ∨ (s = true ∧ decide (0 < ln) = bb) := by
   rcases s with _ | _
   ·left; exact ⟨rfl, by rw [← hbb2, Bool.false_and]⟩
   ·right; exact ⟨rfl, by rw [← hbb2, Bool.true_and]; exact decide_eq_decide.2 (by omega)⟩
  clear hbb2
  by_cases hd1 : d = 1
  ·rw [decide_eq_true hd1] at CI
   have HD := Lib.hid hd
   clear hd1 hd CIG CG
   rcases hbs with ⟨rfl, hbb3⟩ | ⟨rfl, hbb3⟩
   all_goals
    go_enter Tryz.func96, Tryz.ntmps96
    go_wp2_with (with_reducible refine G.any_mark _ ?_; (try generalize Array.size (World.heap (G.w _)) = bk); (try dsimp only [lz0, lz1]); (try clear g); intro g)
    refine (CI.out _ (G.sl g (by simp) H2.out)).mono ?_
    rintro e w1 ⟨rfl, rfl⟩
    go_wp2_with (with_reducible refine G.any_mark _ ?_; (try generalize Array.size (World.heap (G.w _)) = bk); (try dsimp only [lz0, lz1]); (try clear g); intro g)
    refine (COn.out A1 c1 _ (G.sl g (by simp) H1.out)).mono ?_
    rintro e w1 ⟨X, x, P, rfl, hx, hn1⟩
    have ho1 := fun k o hk => Nat.le_trans (G.chg _).size (hn1.new k o hk)
    obtain ⟨g1, rfl⟩ := G.new_ex _ hn1
    clear hn1
    (try clear g)
    revert g1
    intro g
    go_wp2_with (with_reducible refine G.any_mark _ ?_; (try generalize Array.size (World.heap (G.w _)) = bk); (try dsimp only [lz0, lz1]); (try clear g); intro g)
    refine (COd.out A2 c2 _ (G.sl g (by simp) H2.out)).mono ?_
    rintro e w1 ⟨Y, y, Q, rfl, hy, hn2⟩
    have ho2 := fun k o hk => Nat.le_trans (G.chg _).size (hn2.new k o hk)
    obtain ⟨g1, rfl⟩ := G.new_ex _ hn2
    clear hn2
    (try clear g)
    revert g1
    intro g
    go_wp2_with (with_reducible refine G.any_mark _ ?_; (try generalize Array.size (World.heap (G.w _)) = bk); (try dsimp only [lz0, lz1]); (try clear g); intro g)
    refine bodyPost_ret (v := .agg #[.bool bb, .slice X ln x, .slice Y ld y]) (by first | (simp [results, Tryz.results96, go_sem]; done) | (simp [results, Tryz.results96, go_sem, hbb3]; done)) rfl ?_
    exact ⟨X, x, P, Y, y, Q, rfl, hx, hy, G.pass _ (by simp) ho1, G.pass _ (by simp) ho2⟩
  ·rw [decide_eq_false hd1] at CI
   have HD := Lib.hid hd
   clear hd1 hd
   rcases hbs with ⟨rfl, hbb3⟩ | ⟨rfl, hbb3⟩
   all_goals
    go_enter Tryz.func96, Tryz.ntmps96
    go_wp2_with (with_reducible refine G.any_mark _ ?_; (try generalize Array.size (World.heap (G.w _)) = bk); (try dsimp only [lz0, lz1]); (try clear g); intro g)
    refine (CI.out _ (G.sl g (by simp) H2.out)).mono ?_
    rintro e w1 ⟨rfl, rfl⟩
    go_wp2_with (with_reducible refine G.any_mark _ ?_; (try generalize Array.size (World.heap (G.w _)) = bk); (try dsimp only [lz0, lz1]); (try clear g); intro g)
    refine (CG.out (g.fr (heapOf w)) _ (g.fr_sub (by simp)) (g.fr_sl (by simp) (Frag.over_self _ _) H1.out) (g.fr_sl (by simp) (Frag.over_self _ _) H2.out)).mono ?_
    rintro e w1 ⟨Ag, cg, Fg, rfl, hsg, hng⟩
    obtain ⟨g1, rfl, hov⟩ := g.newor_ex hng
    clear hng
    (try clear g)
    revert g1
    intro g
    go_wp2_with (with_reducible refine G.any_mark _ ?_; (try generalize Array.size (World.heap (G.w _)) = bk); (try dsimp only [lz0, lz1]); (try clear g); intro g)
    refine (CIG.out Ag cg _ (G.sl g (by simp) hsg)).mono ?_
    rintro e w1 ⟨rfl, rfl⟩
    go_wp2_with (with_reducible refine G.any_mark _ ?_; (try generalize Array.size (World.heap (G.w _)) = bk); (try dsimp only [lz0, lz1]); (try clear g); intro g)
    refine (COn.out A1 c1 _ (G.sl g (by simp) H1.out)).mono ?_
    rintro e w1 ⟨X, x, P, rfl, hx, hn1⟩
    have ho1 := fun k o hk => Nat.le_trans (G.chg _).size (hn1.new k o hk)
    obtain ⟨g1, rfl⟩ := G.new_ex _ hn1
    clear hn1
    (try clear g)
    revert g1
    intro g
    go_wp2_with (with_reducible refine G.any_mark _ ?_; (try generalize Array.size (World.heap (G.w _)) = bk); (try dsimp only [lz0, lz1]); (try clear g); intro g)
    refine (COd.out A2 c2 _ (G.sl g (by simp) H2.out)).mono ?_
    rintro e w1 ⟨Y, y, Q, rfl, hy, hn2⟩
    have ho2 := fun k o hk => Nat.le_trans (G.chg _).size (hn2.new k o hk)
    obtain ⟨g1, rfl⟩ := G.new_ex _ hn2
    clear hn2
    (try clear g)
    revert g1
    intro g
    go_wp2_with (with_reducible refine G.any_mark _ ?_; (try generalize Array.size (World.heap (G.w _)) = bk); (try dsimp only [lz0, lz1]); (try clear g); intro g)
    refine bodyPost_ret (v := .agg #[.bool bb, .slice X ln x, .slice Y ld y]) (by first | (simp [results, Tryz.results96, go_sem]; done) | (simp [results, Tryz.results96, go_sem, hbb3]; done)) rfl ?_
    exact ⟨X, x, P, Y, y, Q, rfl, hx, hy, G.pass _ (by simp) ho1, G.pass _ (by simp) ho2⟩
 ·rw [decide_eq_false hG1] at CIG
  have hd1 : d ≠ 1 := by rintro rfl; apply hG1; rw [← hG]; exact Nat.gcd_one_right n
  rw [decide_eq_false hd1] at CI
  have HD := Lib.hid hd
  generalize (limbs n).length = la at *
  generalize (limbs d).length = lb at *
  generalize (limbs (n / G')).length = ln at *
  generalize (limbs (d / G')).length = ld at *
  have hbs : (s = false ∧ bb = false) ∨ (s = true ∧ decide (0 < ln) = bb) := by
   rcases s with _ | _
   ·left; exact ⟨rfl, by rw [← hbb2, Bool.false_and]⟩
   ·right; exact ⟨rfl, by rw [← hbb2, Bool.true_and]; exact decide_eq_decide.2 (by omega)⟩
  clear hbb2 hbb hn0 hG hG0 hgl hG1 hd1 hd h1 h2
  rcases hbs with ⟨rfl, hbb3⟩ | ⟨rfl, hbb3⟩
  all_goals
   go_enter Tryz.func96, Tryz.ntmps96
   go_wp2_with (with_reducible refine G.any_mark _ ?_; (try generalize Array.size (World.heap (G.w _)) = bk); (try dsimp only [lz0, lz1]); (try clear g); intro g)
   refine (CI.out _ (G.sl g (by simp) H2.out)).mono ?_
   rintro e w1 ⟨rfl, rfl⟩
   go_wp2_with (with_reducible refine G.any_mark _ ?_; (try generalize Array.size (World.heap (G.w _)) = bk); (try dsimp only [lz0, lz1]); (try clear g); intro g)
   refine (CG.out (g.fr (heapOf w)) _ (g.fr_sub (by simp)) (g.fr_sl (by simp) (Frag.over_self _ _) H1.out) (g.fr_sl (by simp) (Frag.over_self _ _) H2.out)).mono ?_
   rintro e w1 ⟨Ag, cg, Fg, rfl, hsg, hng⟩
   obtain ⟨g1, rfl, hov⟩ := g.newor_ex hng
   clear hng
   (try clear g)
   revert g1
   intro g
   go_wp2_with (with_reducible refine G.any_mark _ ?_; (try generalize Array.size (World.heap (G.w _)) = bk); (try dsimp only [lz0, lz1]); (try clear g); intro g)
   refine (CIG.out Ag cg _ (G.sl g (by simp) hsg)).mono ?_
   rintro e w1 ⟨rfl, rfl⟩
   go_wp2_with (with_reducible refine G.any_mark _ ?_; (try generalize Array.size (World.heap (G.w _)) = bk); (try dsimp only [lz0, lz1]); (try clear g); intro g)
   refine (CQ1.out Ag cg _ (G.sl g (by simp) H1.out) (G.sl g (by simp) hsg)).mono ?_
   rintro e w1 ⟨B1, b1, F1, B2, b2, F2, rfl, hq1, hq2, hn1, hn2⟩
   obtain ⟨g1, rfl⟩ := G.new2_ex _ hn1 hn2
   clear hn1 hn2 hq2
   (try clear g)
   revert g1
   intro g
   go_wp2_with (with_reducible refine G.any_mark _ ?_; (try generalize Array.size (World.heap (G.w _)) = bk); (try dsimp only [lz0, lz1]); (try clear g); intro g)
   refine (CQ2.out Ag cg _ (G.sl g (by simp) H2.out) (G.sl g (by simp) hsg)).mono ?_
   rintro e w1 ⟨B3, b3, F3, B4, b4, F4, rfl, hq3, hq4, hn1, hn2⟩
   obtain ⟨g1, rfl⟩ := G.new2_ex _ hn1 hn2
   clear hn1 hn2 hq4
   (try clear g)
   revert g1
   intro g
   go_wp2_with (with_reducible refine G.any_mark _ ?_; (try generalize Array.size (World.heap (G.w _)) = bk); (try dsimp only [lz0, lz1]); (try clear g); intro g)
   refine (COn.out B1 b1 _ (G.sl g (by simp) hq1)).mono ?_
   rintro e w1 ⟨X, x, P, rfl, hx, hn1⟩
   have ho1 := fun k o hk => Nat.le_trans (G.chg _).size (hn1.new k o hk)
   obtain ⟨g1, rfl⟩ := G.new_ex _ hn1
   clear hn1
   (try clear g)
   revert g1
   intro g
   go_wp2_with (with_reducible refine G.any_mark _ ?_; (try generalize Array.size (World.heap (G.w _)) = bk); (try dsimp only [lz0, lz1]); (try clear g); intro g)
   refine (COd.out B3 b3 _ (G.sl g (by simp) hq3)).mono ?_
   rintro e w1 ⟨Y, y, Q, rfl, hy, hn2⟩
   have ho2 := fun k o hk => Nat.le_trans (G.chg _).size (hn2.new k o hk)
   obtain ⟨g1, rfl⟩ := G.new_ex _ hn2
   clear hn2
   (try clear g)
   revert g1
   intro g
   go_wp2_with (with_reducible refine G.any_mark _ ?_; (try generalize Array.size (World.heap (G.w _)) = bk); (try dsimp only [lz0, lz1]); (try clear g); intro g)
   refine bodyPost_ret (v := .agg #[.bool bb, .slice X ln x, .slice Y ld y]) (by first | (simp [results, Tryz.results96, go_sem]; done) | (simp [results, Tryz.results96, go_sem, hbb3]; done)) rfl ?_
   exact ⟨X, x, P, Y, y, Q, rfl, hx, hy, G.pass _ (by simp) ho1, G.pass _ (by simp) ho2⟩
end Go.Proofs.YthhbbnfnejjpiaaGreatDoor
namespace Go.Proofs.YthhbbnfnejjpiaaGreatDoor
open Go.RowKit GW NL
/-- a natural number and a sign -/
def RFrom (n : Nat) (b : Bool) (w : World) (e : Ending) (w' : World) : Prop := ∃ A c F, e = .returned (.tuple #[.slice A (limbs n).length c, .bool b]) ∧ F.Sl A c (limbs n) ∧ New w w' F
set_option maxRecDepth 20000 in
theorem from_pos (n : Nat) (h1 : n < 9223372036854775808) (w : World) : Calls Tryz.prog 118 #[.int .i64 n] w (RFrom n false w) := by
 refine calls_b fun g => ?_
 obtain ⟨hv, hk⟩ := two_limbs64 n (by omega)
 have HV := Lib.hid hv
 have e1 : (((n % 4294967296 : Nat)) : Int) = (n : Int) % 4294967296 := by omega
 have e2 : (((n / 4294967296 : Nat)) : Int) = (n : Int) / 4294967296 := by omega
 have E1 := Lib.hid e1
 have E2 := Lib.hid e2
 clear hv e1 e2
 go_enter Tryz.func118, Tryz.ntmps118
 go_wp2_with (with_reducible refine G.any_mark _ ?_; (try generalize Array.size (World.heap (G.w _)) = bk); (try dsimp only [lz0, lz1]); (try clear g); intro g)
 obtain ⟨L, hL⟩ : ∃ L, [n % 4294967296, n / 4294967296] = L := ⟨_, rfl⟩
 have hL2 : L.length = 2 := by rw [← hL]; rfl
 have HVL := HV.out
 obtain ⟨g2, hg2⟩ := g.as (M' := [(bk, 73, u32s L)]) (by rw [← hL]; simp only [u32s, List.map_cons, List.map_nil, E1.out, E2.out])
 rw [hg2]
 clear hg2 g
 revert g2
 intro g
 rw [hL] at hk HVL
 have HVV := Lib.hid HVL
 have HL2 := Lib.hid hL2
 clear HVL hL2 hL HV E1 E2
 obtain ⟨tb, rfl⟩ : ∃ tb, tb = bk := ⟨_, rfl⟩
 go_loopg [5] 2 (fun gk s5 wr => gk ≤ 2 ∧ s5 = .slice (some ⟨tb, 0, none⟩) gk 2 ∧ Hid (val (L.take gk) = n) ∧ ∃ g : G w [] [(tb, 73, u32s L)] [heapOf w], wr = g.w)
 case atStart => exact ⟨Nat.le_refl _, rfl, Lib.hid (by rw [List.take_of_length_le (by rw [HL2.out]; exact Nat.le_refl _)]; exact HVV.out), g, rfl⟩
 case round =>
  clear g
  obtain ⟨hj, rfl, HVJ, g, rfl⟩ := hrel
  have hfin : (blkF tb (.cells (u32s L).toArray 73 (0, 0))).Sl (some ⟨tb, 0, none⟩) 2 (limbs n) := by
   have := sl_trim (sl_blk (b := tb) (T := 73) (fr := (0, 0)) (c := 2) (by rw [HL2.out]; exact Nat.le_refl _) (by decide) hk)
   rwa [HVV.out] at this
  have HF := Lib.hid hfin
  clear hfin
  rcases Nat.eq_zero_or_pos gk with h0 | hj0
  ·subst h0
   have hn0 : (limbs n).length = 0 := by
    rw [← HVJ.out, List.take_zero]; exact limbs_len0
   have HLE := Lib.hid hn0
   clear hn0
   go_wp2_with (with_reducible refine G.any_mark _ ?_; (try generalize Array.size (World.heap (G.w _)) = bk); (try dsimp only [lz0, lz1]); (try clear g); intro g)
   go_ret2
   exact ⟨some ⟨tb, 0, none⟩, 2, _, by rw [HLE.out]; rfl, HF.out, g.give (List.mem_cons_self ..)⟩
  ·have e1 : (u32s L)[gk - 1]? = some (.int .u32 ((L.getD (gk - 1) 0 : Nat) : Int)) := u32s_getD (by rw [HL2.out]; omega)
   have hji : ((gk - 1 : Nat) : Int) = (gk : Int) - 1 := by omega
   have hj1 : (0 : Int) ≤ (gk : Int) - 1 := by omega
   have hj2 : (gk : Int) - 1 < (gk : Int) := by omega
   have hj3 : (0 : Int) < (gk : Int) := by omega
   generalize u32s L = U at *
   by_cases hx : L.getD (gk - 1) 0 = 0
   ·have hv' : val (L.take (gk - 1)) = n := by
     rw [← HVJ.out]
     have := val_take_getD L (gk - 1)
     rw [show gk - 1 + 1 = gk by omega, hx] at this
     omega
    have HV' := Lib.hid hv'
    have hx1 : (((L.getD (gk - 1) 0 : Nat) : Int) == 0) = true := by simp only [hx]; rfl
    clear hv' hx
    generalize ((L.getD (gk - 1) 0 : Nat) : Int) = v at *
    go_wp2_with (with_reducible refine G.any_mark _ ?_; (try generalize Array.size (World.heap (G.w _)) = bk); (try dsimp only [lz0, lz1]); (try clear g); intro g)
    go_roundg (gk - 1)
    case measure => omega
    case rel => exact ⟨by omega, rfl, HV', g, rfl⟩
   ·have hlen : (limbs n).length = gk := by
     have hl : (L.take gk).length = gk := by rw [List.length_take, HL2.out]; omega
     have t : Trim (L.take gk) := by
      intro j hj
      rw [hl] at hj
      rw [getD_take (by omega), show j = gk - 1 by omega]
      exact hx
     rw [← HVJ.out, limbs_val (hk.take gk) t, hl]
    have HLE := Lib.hid hlen
    have hx1 : (((L.getD (gk - 1) 0 : Nat) : Int) == 0) = false := by simp only [beq_eq_false_iff_ne, ne_eq]; omega
    clear hlen hx
    generalize ((L.getD (gk - 1) 0 : Nat) : Int) = v at *
    go_wp2_with (with_reducible refine G.any_mark _ ?_; (try generalize Array.size (World.heap (G.w _)) = bk); (try dsimp only [lz0, lz1]); (try clear g); intro g)
    go_ret2
    exact ⟨some ⟨tb, 0, none⟩, 2, _, by rw [HLE.out]; rfl, HF.out, g.give (List.mem_cons_self ..)⟩
set_option maxRecDepth 20000 in
theorem from_neg (n : Nat) (h0 : 0 < n) (h1 : n ≤ 9223372036854775808) (w : World) : Calls Tryz.prog 118 #[.int .i64 (-(n : Int))] w (RFrom n true w) := by
 refine calls_b fun g => ?_
 obtain ⟨a, ha⟩ : ∃ a : Int, -(n : Int) = a := ⟨_, rfl⟩
 rw [ha]
 have hneg : a < 0 := by omega
 obtain ⟨b, hb⟩ : ∃ b : Int, 18446744073709551616 - (n : Int) = b := ⟨_, rfl⟩
 have w1 : IntKind.u64.wrap a = b := by show a % 18446744073709551616 = b; omega
 have w2 : IntKind.u64.wrap (-b) = (n : Int) := by show (-b) % 18446744073709551616 = (n : Int); omega
 obtain ⟨hv, hk⟩ := two_limbs64 n (by omega)
 have HV := Lib.hid hv
 have e1 : (((n % 4294967296 : Nat)) : Int) = (n : Int) % 4294967296 := by omega
 have e2 : (((n / 4294967296 : Nat)) : Int) = (n : Int) / 4294967296 := by omega
 have E1 := Lib.hid e1
 have E2 := Lib.hid e2
 have hn64 : (n : Int) / 4294967296 < 4294967296 := by omega
 clear hv e1 e2 hb
 have h63 : -9223372036854775808 ≤ a := by omega
 go_enter Tryz.func118, Tryz.ntmps118
 go_wp2_with (with_reducible refine G.any_mark _ ?_; (try generalize Array.size (World.heap (G.w _)) = bk); (try dsimp only [lz0, lz1]); (try clear g); intro g)
 obtain ⟨L, hL⟩ : ∃ L, [n % 4294967296, n / 4294967296] = L := ⟨_, rfl⟩
 have hL2 : L.length = 2 := by rw [← hL]; rfl
 have HVL := HV.out
 obtain ⟨g2, hg2⟩ := g.as (M' := [(bk, 73, u32s L)]) (by rw [← hL]; simp only [u32s, List.map_cons, List.map_nil, E1.out, E2.out])
 rw [hg2]
 clear hg2 g
 revert g2
 intro g
 rw [hL] at hk HVL
 have HVV := Lib.hid HVL
 have HL2 := Lib.hid hL2
 clear HVL hL2 hL HV E1 E2
 obtain ⟨tb, rfl⟩ : ∃ tb, tb = bk := ⟨_, rfl⟩
 go_loopg [5] 2 (fun gk s5 wr => gk ≤ 2 ∧ s5 = .slice (some ⟨tb, 0, none⟩) gk 2 ∧ Hid (val (L.take gk) = n) ∧ ∃ g : G w [] [(tb, 73, u32s L)] [heapOf w], wr = g.w)
 case atStart => exact ⟨Nat.le_refl _, rfl, Lib.hid (by rw [List.take_of_length_le (by rw [HL2.out]; exact Nat.le_refl _)]; exact HVV.out), g, rfl⟩
 case round =>
  clear g
  obtain ⟨hj, rfl, HVJ, g, rfl⟩ := hrel
  have hfin : (blkF tb (.cells (u32s L).toArray 73 (0, 0))).Sl (some ⟨tb, 0, none⟩) 2 (limbs n) := by
   have := sl_trim (sl_blk (b := tb) (T := 73) (fr := (0, 0)) (c := 2) (by rw [HL2.out]; exact Nat.le_refl _) (by decide) hk)
   rwa [HVV.out] at this
  have HF := Lib.hid hfin
  clear hfin
  rcases Nat.eq_zero_or_pos gk with h0 | hj0
  ·subst h0
   have hn0 : (limbs n).length = 0 := by
    rw [← HVJ.out, List.take_zero]; exact limbs_len0
   have HLE := Lib.hid hn0
   clear hn0
   go_wp2_with (with_reducible refine G.any_mark _ ?_; (try generalize Array.size (World.heap (G.w _)) = bk); (try dsimp only [lz0, lz1]); (try clear g); intro g)
   go_ret2
   exact ⟨some ⟨tb, 0, none⟩, 2, _, by rw [HLE.out]; rfl, HF.out, g.give (List.mem_cons_self ..)⟩
  ·have e1 : (u32s L)[gk - 1]? = some (.int .u32 ((L.getD (gk - 1) 0 : Nat) : Int)) := u32s_getD (by rw [HL2.out]; omega)
   have hji : ((gk - 1 : Nat) : Int) = (gk : Int) - 1 := by omega
   have hj1 : (0 : Int) ≤ (gk : Int) - 1 := by omega
   have hj2 : (gk : Int) - 1 < (gk : Int) := by omega
   have hj3 : (0 : Int) < (gk : Int) := by omega
   generalize u32s L = U at *
   by_cases hx : L.getD (gk - 1) 0 = 0
   ·have hv' : val (L.take (gk - 1)) = n := by
     rw [← HVJ.out]
     have := val_take_getD L (gk - 1)
     rw [show gk - 1 + 1 = gk by omega, hx] at this
     omega
    have HV' := Lib.hid hv'
    have hx1 : (((L.getD (gk - 1) 0 : Nat) : Int) == 0) = true := by simp only [hx]; rfl
    clear hv' hx
    generalize ((L.getD (gk - 1) 0 : Nat) : Int) = v at *
    go_wp2_with (with_reducible refine G.any_mark _ ?_; (try generalize Array.size (World.heap (G.w _)) = bk); (try dsimp only [lz0, lz1]); (try clear g); intro g)
    go_roundg (gk - 1)
    case measure => omega
    case rel => exact ⟨by omega, rfl, HV', g, rfl⟩
   ·have hlen : (limbs n).length = gk := by
     have hl : (L.take gk).length = gk := by rw [List.length_take, HL2.out]; omega
     have t : Trim (L.take gk) := by
      intro j hj
      rw [hl] at hj
      rw [getD_take (by omega), show j = gk - 1 by omega]
      exact hx
     rw [← HVJ.out, limbs_val (hk.take gk) t, hl]
    have HLE := Lib.hid hlen
    have hx1 : (((L.getD (gk - 1) 0 : Nat) : Int) == 0) = false := by simp only [beq_eq_false_iff_ne, ne_eq]; omega
    clear hlen hx
    generalize ((L.getD (gk - 1) 0 : Nat) : Int) = v at *
    go_wp2_with (with_reducible refine G.any_mark _ ?_; (try generalize Array.size (World.heap (G.w _)) = bk); (try dsimp only [lz0, lz1]); (try clear g); intro g)
    go_ret2
    exact ⟨some ⟨tb, 0, none⟩, 2, _, by rw [HLE.out]; rfl, HF.out, g.give (List.mem_cons_self ..)⟩
end Go.Proofs.YthhbbnfnejjpiaaGreatDoor
namespace Go.Proofs.YthhbbnfnejjpiaaGreatDoor
open Go.RowKit GW NL
theorem from_any (a : Int) (h1 : -9223372036854775808 ≤ a) (h2 : a < 9223372036854775808) (w : World) : Calls Tryz.prog 118 #[.int .i64 a] w (RFrom a.natAbs (decide (a < 0)) w) := by
 by_cases h : a < 0
 ·have := from_neg a.natAbs (by omega) (by omega) w
  rw [show -((a.natAbs : Nat) : Int) = a by omega] at this
  rwa [decide_eq_true h]
 ·have := from_pos a.natAbs (by omega) w
  rw [show ((a.natAbs : Nat) : Int) = a by omega] at this
  rwa [decide_eq_false h]
/-- what the reference's Of answers -/
def ofY (a b : Int) : Bool × Nat × Nat × Int := if b = 0 then (false, 0, 0, 6) else (rneg (frac (decide (a < 0) != decide (b < 0)) a.natAbs b.natAbs), rn (frac (decide (a < 0) != decide (b < 0)) a.natAbs b.natAbs), (frac (decide (a < 0) != decide (b < 0)) a.natAbs b.natAbs).den, 0)
set_option maxRecDepth 20000 in
set_option maxHeartbeats 4000000 in
theorem rOf_any (a b : Int) (h1 : -9223372036854775808 ≤ a) (h2 : a < 9223372036854775808) (h3 : -9223372036854775808 ≤ b) (h4 : b < 9223372036854775808) (w : World) :
  Calls Tryz.prog 92 #[.int .i64 a, .int .i64 b] w (RPE (ofY a b) w) := by
 by_cases hb0 : b = 0
 ·subst hb0
  refine calls_b fun g => ?_
  go_enter Tryz.func92, Tryz.ntmps92
  go_wp2_with (with_reducible refine G.any_mark _ ?_; (try generalize Array.size (World.heap (G.w _)) = bk); (try dsimp only [lz0, lz1]); (try clear g); intro g)
  refine bodyPost_ret (v := .tuple #[.agg #[.bool false, .slice none 0 0, .slice none 0 0], .int .i64 6]) (by simp [results, Tryz.results92, go_sem]) rfl ?_
  exact rpe_err _ _
 ·have hd0 : b.natAbs ≠ 0 := by omega
  have hla : (limbs a.natAbs).length ≤ 2 := (limbs_len _ 2).2 (by rw [pow32]; omega)
  have hlb : (limbs b.natAbs).length ≤ 2 := (limbs_len _ 2).2 (by rw [pow32]; omega)
  unfold ofY
  rw [if_neg hb0]
  refine calls_b fun g => ?_
  have CSA := Lib.hid (fun w => from_any a h1 h2 w)
  have CSB := Lib.hid (fun w => from_any b h3 h4 w)
  have hbz : (b == 0) = false := by rw [beq_eq_false_iff_ne]; exact hb0
  generalize a.natAbs = na at *
  generalize b.natAbs = nb at *
  obtain ⟨sa, hsa⟩ : ∃ s, decide (a < 0) = s := ⟨_, rfl⟩
  obtain ⟨sb, hsb⟩ : ∃ s, decide (b < 0) = s := ⟨_, rfl⟩
  rw [hsa] at CSA ⊢
  rw [hsb] at CSB ⊢
  obtain ⟨sg, hsg⟩ : ∃ sg, (sa != sb) = sg := ⟨_, rfl⟩
  rw [hsg]
  have hsg2 : (!(sa == sb)) = sg := hsg
  clear hsa hsb
  have CL := Lib.hid (fun A c B k w h1 h2 => rLow_any sg A B c k na nb w h1 h2 (by omega) (by omega) hd0)
  unfold RNf at CL
  generalize frac sg na nb = x at *
  generalize rneg x = xs at *
  generalize rn x = xn at *
  generalize x.den = xd at *
  clear h1 h2 h3 h4 hla hlb hd0 hb0
  unfold RPE
  dsimp only
  go_enter Tryz.func92, Tryz.ntmps92
  go_wp2_with (with_reducible refine G.any_mark _ ?_; (try generalize Array.size (World.heap (G.w _)) = bk); (try dsimp only [lz0, lz1]); (try clear g); intro g)
  refine (CSA.out _).mono ?_
  rintro e w1 ⟨X1, x1, P1, rfl, hx1, hn1⟩
  obtain ⟨g1, rfl⟩ := G.new_ex _ hn1
  clear hn1
  (try clear g)
  revert g1
  intro g
  go_wp2_with (with_reducible refine G.any_mark _ ?_; (try generalize Array.size (World.heap (G.w _)) = bk); (try dsimp only [lz0, lz1]); (try clear g); intro g)
  refine (CSB.out _).mono ?_
  rintro e w1 ⟨X2, x2, P2, rfl, hx2, hn2⟩
  obtain ⟨g1, rfl⟩ := G.new_ex _ hn2
  clear hn2
  (try clear g)
  revert g1
  intro g
  go_wp2_with (with_reducible refine G.any_mark _ ?_; (try generalize Array.size (World.heap (G.w _)) = bk); (try dsimp only [lz0, lz1]); (try clear g); intro g)
  refine (CL.out _ _ _ _ _ (G.sl g (by simp) hx1) (G.sl g (by simp) hx2)).mono ?_
  rintro e w1 ⟨Z1, z1, R1, Z2, z2, R2, rfl, hz1, hz2, hn1, hn2⟩
  have ho1 := fun k o hk => Nat.le_trans (G.chg _).size (hn1.new k o hk)
  have ho2 := fun k o hk => Nat.le_trans (G.chg _).size (hn2.new k o hk)
  obtain ⟨g1, rfl⟩ := G.new2_ex _ hn1 hn2
  clear hn1 hn2
  (try clear g)
  revert g1
  intro g
  go_wp2_with (with_reducible refine G.any_mark _ ?_; (try generalize Array.size (World.heap (G.w _)) = bk); (try dsimp only [lz0, lz1]); (try clear g); intro g)
  refine bodyPost_ret (v := .tuple #[.agg #[.bool xs, .slice Z1 (limbs xn).length z1, .slice Z2 (limbs xd).length z2], .int .i64 0]) (by simp [results, Tryz.results92, go_sem]) rfl ?_
  exact ⟨Z1, z1, R1, Z2, z2, R2, rfl, hz1, hz2, G.pass _ (by simp) ho1, G.pass _ (by simp) ho2⟩
end Go.Proofs.YthhbbnfnejjpiaaGreatDoor
namespace Go.Proofs.YthhbbnfnejjpiaaGreatDoor
open Go.RowKit GW NL
theorem rchk_val0 {x : Rat} (h : Bd 8192 x) : rchk (rneg x) (limbs (rn x)) (limbs x.den) = 0 := by
 unfold rchk
 rw [chk_limbs h.1, chk_limbs h.2, val_limbs, val_limbs, if_neg (by decide), if_neg (by decide), if_neg x.den_nz, if_neg]
 rintro (⟨h1, h2⟩ | h1)
 ·exact rneg_ne h1 h2
 ·exact h1 (rgcd x)
end Go.Proofs.YthhbbnfnejjpiaaGreatDoor
