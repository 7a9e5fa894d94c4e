/- Plain facts and contracts of functions of the program, out of walks. Their conditions stand ahead of each. -/
import Derived.Test.YtjdnpkicdmapnaaDoorRt2
import Derived.Test.YtjdnpkicdmapnaaDoorRt3
import Derived.Test.YtjdnpkicdmapnaaDoorRt28
import Derived.Test.YtjdnpkicdmapnaaDoorRt35
import Derived.Test.YtjdnpkicdmapnaaDoorRt41
import Derived.Test.YtjdnpkicdmapnaaDoorRt42
import Derived.Below
import Derived.BigQuiet
import Derived.Deep.Draws
import Derived.Deep.LoopGhost
import Derived.Deep.QuietTactic
import Derived.Deep.RegionHeld3
import Derived.Deep.RegionLaw
import Derived.Defers
import Derived.Laws.BytesString
import Derived.Laws.Cells
import Derived.Laws.CopyOwn
import Derived.Laws.CopyRow
import Derived.Laws.NewBlocks
import Derived.Laws.OwnMore
import Derived.Laws.Pointers
import Derived.Laws.Rows
import Derived.Lib.BitFns
import Derived.Lib.Hide
import Derived.Lib.ItoaNum
import Derived.Lib.TrailingZeros
import Derived.LoopIn
import Derived.LoopNIn
import Derived.Maps.AppendAt
import Derived.OrdersIn
import Derived.OwnWalk
import Derived.OwnWalkIn
import Derived.RangeFuncBound
import Derived.RangeFuncBox
import Derived.RangeFuncCalls
import Derived.RangeFuncLeaves
import Derived.RangeFuncNested
import Derived.RowKit3
import Derived.Shelf.Abstract
import Derived.Shelf.RegionOpen
import Derived.Shelf.Spec.TrailingZeros
import Derived.StillTactics
import Derived.StillTailTactics
import Derived.TacticsInMore
import Derived.Test.YtjdnpkicdmapnaaDoorProg
import Derived.WalkKit
import Derived.WalkLawsBesides
import Derived.WalkMore
import Derived.WalkSpells
set_option linter.unusedVariables false
set_option linter.unusedSimpArgs false
set_option exponentiation.threshold 10000
namespace Go.Proofs.YtjdnpkicdmapnaaDoor
open Go.RowKit GW NL
/-- what Make answers -/
def makX (s : Bool) (l m : List Nat) : Bool × Nat × Nat × Int := if chk l ≠ 0 then (false, 0, 0, chk l) else if chk m ≠ 0 then (false, 0, 0, chk m) else if val m = 0 then (false, 0, 0, 6) else outX (frac s (val l) (val m))
set_option maxRecDepth 20000 in
set_option maxHeartbeats 4000000 in
theorem qMake_any (s : Bool) (A B : Option Addr) (c k : Nat) (ln ld : List Nat) (w : World) (h1 : SlW w A c ln) (h2 : SlW w B k ld) (hT : Tab w) :
    Calls Tryd.prog 22 #[.bool s, .slice A ln.length c, .slice B ld.length k] w (RPE (makX s ln ld) w) := by
  refine calls_n fun g => ?_
  have CK1 := Lib.hid (fun w h => check_any A c ln w h)
  have CK2 := Lib.hid (fun w h => check_any B k ld w h)
  have HT := Lib.hid hT
  have P1 := chk_pos ln
  have P2 := chk_pos ld
  have K1 := Lib.hid (fun h => chk_ok h1.ok h)
  have K2 := Lib.hid (fun h => chk_ok h2.ok h)
  obtain ⟨RR, hRR⟩ : ∃ R, makX s ln ld = R := ⟨_, rfl⟩
  rw [hRR]
  unfold makX at hRR
  obtain ⟨x1, hx1⟩ : ∃ x, chk ln = x := ⟨_, rfl⟩
  obtain ⟨x2, hx2⟩ : ∃ x, chk ld = x := ⟨_, rfl⟩
  rw [hx1] at CK1 P1 K1
  rw [hx2] at CK2 P2 K2
  rw [hx1, hx2] at hRR
  have HRR := Lib.hid hRR
  have H1 := Lib.hid h1
  have H2 := Lib.hid h2
  clear hT hx1 hx2 h1 h2 hRR
  obtain ⟨n1, hn1⟩ : ∃ n, ln.length = n := ⟨_, rfl⟩
  obtain ⟨n2, hn2⟩ : ∃ n, ld.length = n := ⟨_, rfl⟩
  rw [hn1] at CK1 ⊢
  rw [hn2] at CK2 ⊢
  have HN1 := Lib.hid hn1
  have HN2 := Lib.hid hn2
  clear hn1 hn2
  go_enter Tryd.func22, Tryd.ntmps22
  go_wp2_with (with_reducible refine G.any_mark _ ?_; (try generalize Array.size (World.heap (G.w _)) = bk); (try dsimp only [List.set_cons_zero, List.set_cons_succ]); (try clear g); intro g)
  obtain ⟨lb, rfl⟩ : ∃ lb, lb = bk := ⟨_, rfl⟩
  obtain ⟨xb, rfl⟩ : ∃ xb, xb = bk := ⟨_, rfl⟩
  go_loopg [15] 2 (fun gk s13 wr => ((gk = 2 ∧ s13 = .int .i64 0) ∨ (gk = 1 ∧ s13 = .int .i64 1 ∧ x1 = 0) ∨ (gk = 0 ∧ s13 = .int .i64 2 ∧ x1 = 0 ∧ x2 = 0)) ∧ ∃ g : G w [] [(lb, 24, [.slice A n1 c, .slice B n2 k]), (xb, 26, [.bool false, .slice none 0 0, .slice none 0 0])] [heapOf w, nilF], wr = g.w)
  case atStart => exact ⟨.inl ⟨rfl, rfl⟩, g, rfl⟩
  case round =>
    clear g
    obtain ⟨hst, g, rfl⟩ := hrel
    rcases hst with ⟨rfl, rfl⟩ | ⟨rfl, rfl, rfl⟩ | ⟨rfl, rfl, rfl, rfl⟩
    · go_wp2_with (with_reducible refine G.any_mark _ ?_; (try generalize Array.size (World.heap (G.w _)) = bk); (try dsimp only [List.set_cons_zero, List.set_cons_succ]); (try clear g); intro g)
      refine (CK1.out _ (G.sl g (by simp) H1.out)).mono ?_
      rintro e w1 ⟨rfl, hb⟩
      obtain ⟨g1, rfl⟩ := G.call_ex _ hb
      clear hb
      (try clear g)
      revert g1
      intro g
      rcases P1 with rfl | rfl | rfl
      · go_wp2_with (with_reducible refine G.any_mark _ ?_; (try generalize Array.size (World.heap (G.w _)) = bk); (try dsimp only [List.set_cons_zero, List.set_cons_succ]); (try clear g); intro g)
        go_roundg 1
        case measure => omega
        case rel => exact ⟨by simp, g, rfl⟩
      · go_wp2_with (with_reducible refine G.any_mark _ ?_; (try generalize Array.size (World.heap (G.w _)) = bk); (try dsimp only [List.set_cons_zero, List.set_cons_succ]); (try clear g); intro g)
        refine bodyPost_ret (v := .tuple #[.agg #[.bool false, .slice none 0 0, .slice none 0 0], .int .i64 3]) (by simp [results, Tryd.results22, go_sem]) rfl ?_
        rw [← HRR.out, if_pos (by decide)]
        exact rpe_err _ _
      · go_wp2_with (with_reducible refine G.any_mark _ ?_; (try generalize Array.size (World.heap (G.w _)) = bk); (try dsimp only [List.set_cons_zero, List.set_cons_succ]); (try clear g); intro g)
        refine bodyPost_ret (v := .tuple #[.agg #[.bool false, .slice none 0 0, .slice none 0 0], .int .i64 4]) (by simp [results, Tryd.results22, go_sem]) rfl ?_
        rw [← HRR.out, if_pos (by decide)]
        exact rpe_err _ _
    · go_wp2_with (with_reducible refine G.any_mark _ ?_; (try generalize Array.size (World.heap (G.w _)) = bk); (try dsimp only [List.set_cons_zero, List.set_cons_succ]); (try clear g); intro g)
      refine (CK2.out _ (G.sl g (by simp) H2.out)).mono ?_
      rintro e w1 ⟨rfl, hb⟩
      obtain ⟨g1, rfl⟩ := G.call_ex _ hb
      clear hb
      (try clear g)
      revert g1
      intro g
      rcases P2 with rfl | rfl | rfl
      · go_wp2_with (with_reducible refine G.any_mark _ ?_; (try generalize Array.size (World.heap (G.w _)) = bk); (try dsimp only [List.set_cons_zero, List.set_cons_succ]); (try clear g); intro g)
        go_roundg 0
        case measure => omega
        case rel => exact ⟨by simp, g, rfl⟩
      · go_wp2_with (with_reducible refine G.any_mark _ ?_; (try generalize Array.size (World.heap (G.w _)) = bk); (try dsimp only [List.set_cons_zero, List.set_cons_succ]); (try clear g); intro g)
        refine bodyPost_ret (v := .tuple #[.agg #[.bool false, .slice none 0 0, .slice none 0 0], .int .i64 3]) (by simp [results, Tryd.results22, go_sem]) rfl ?_
        rw [← HRR.out, if_neg (by decide), if_pos (by decide)]
        exact rpe_err _ _
      · go_wp2_with (with_reducible refine G.any_mark _ ?_; (try generalize Array.size (World.heap (G.w _)) = bk); (try dsimp only [List.set_cons_zero, List.set_cons_succ]); (try clear g); intro g)
        refine bodyPost_ret (v := .tuple #[.agg #[.bool false, .slice none 0 0, .slice none 0 0], .int .i64 4]) (by simp [results, Tryd.results22, go_sem]) rfl ?_
        rw [← HRR.out, if_neg (by decide), if_pos (by decide)]
        exact rpe_err _ _
    · obtain ⟨e1, b1, b2⟩ := K1.out rfl
      obtain ⟨e2, b3, b4⟩ := K2.out rfl
      obtain ⟨v1, hv1⟩ : ∃ v, val ln = v := ⟨_, rfl⟩
      obtain ⟨v2, hv2⟩ : ∃ v, val ld = v := ⟨_, rfl⟩
      have hrr := HRR.out
      rw [if_neg (by decide), if_neg (by decide), hv1, hv2] at hrr
      rw [hv1] at e1
      rw [hv2] at e2
      have s1 := H1.out
      have s2 := H2.out
      rw [e1] at s1
      rw [e2] at s2
      have hl1 : (limbs v1).length = n1 := by rw [← e1]; exact HN1.out
      have hl2 : (limbs v2).length = n2 := by rw [← e2]; exact HN2.out
      rw [e1] at b2
      rw [e2] at b4
      have S1 := Lib.hid s1
      have S2 := Lib.hid s2
      by_cases hz : v2 = 0
      · rw [if_pos hz] at hrr
        have hn0 : n2 = 0 := by rw [← hl2, hz]; exact limbs_len0
        clear hl1 hl2 b2 b4 e1 e2 s1 s2 hv1 hv2 K1 K2 CK1 CK2 P1 P2
        subst hn0
        have HRR2 := Lib.hid hrr
        clear hrr
        go_wp2_with (with_reducible refine G.any_mark _ ?_; (try generalize Array.size (World.heap (G.w _)) = bk); (try dsimp only [List.set_cons_zero, List.set_cons_succ]); (try clear g); intro g)
        refine bodyPost_ret (v := .tuple #[.agg #[.bool false, .slice none 0 0, .slice none 0 0], .int .i64 6]) (by simp [results, Tryd.results22, go_sem]) rfl ?_
        rw [← HRR2.out]
        exact rpe_err _ _
      · rw [if_neg hz] at hrr
        have hn0 : ((n2 : Int) == 0) = false := by rw [beq_eq_false_iff_ne]; have := (limbs_ne hz).2; omega
        have CL := Lib.hid (fun F w hF h1 h2 hT => (by
          have := low_rat F s A B c k v1 v2 w hF h1 h2 hT (by omega) (by omega) hz
          rw [hl1, hl2] at this
          exact this : Calls Tryd.prog 53 #[.agg #[.bool s, .slice A n1 c, .slice B n2 k]] w (RRa F (frac s v1 v2) w)))
        generalize frac s v1 v2 = x at *
        have CR := Lib.hid (fun A B c k w h1 h2 => result_any (rneg x) A B c k (rn x) x.den w h1 h2)
        unfold outX at hrr
        rw [hrr] at CR
        clear hl1 hl2 b2 b4 e1 e2 s1 s2 hv1 hv2 K1 K2 CK1 CK2 P1 P2 hrr hz
        go_wp2_with (with_reducible refine G.any_mark _ ?_; (try generalize Array.size (World.heap (G.w _)) = bk); (try dsimp only [List.set_cons_zero, List.set_cons_succ]); (try clear g); intro g)
        refine (CL.out (g.fr (heapOf w)) _ (g.fr_sub (by simp)) (g.fr_sl (by simp) (Frag.over_self _ _) S1.out) (g.fr_sl (by simp) (Frag.over_self _ _) S2.out) (G.tab g HT.out)).mono ?_
        rintro e w1 ⟨Y1, y1, Q1, Y2, y2, Q2, rfl, hy1, hy2, hn1, hn2⟩
        obtain ⟨g1, rfl, hov1, hov2⟩ := G.new3_ex g hn1 hn2
        clear hn1 hn2
        (try clear g)
        revert g1
        intro g
        go_wp2_with (with_reducible refine G.any_mark _ ?_; (try generalize Array.size (World.heap (G.w _)) = bk); (try dsimp only [List.set_cons_zero, List.set_cons_succ]); (try clear g); intro g)
        refine (CR.out _ _ _ _ _ (G.sl g (by simp) hy1) (G.sl g (by simp) hy2)).mono ?_
        rintro e w1 ⟨Z1, z1, R1, Z2, z2, R2, rfl, hz1, hz2, hn1, hn2⟩
        have ho1 := fun k o hk => Nat.le_trans (G.chg _).size (hn1.new k o hk)
        have ho2 := fun k o hk => Nat.le_trans (G.chg _).size (hn2.new k o hk)
        obtain ⟨g1, rfl⟩ := G.new2_ex _ hn1 hn2
        clear hn1 hn2
        (try clear g)
        revert g1
        intro g
        go_wp2_with (with_reducible refine G.any_mark _ ?_; (try generalize Array.size (World.heap (G.w _)) = bk); (try dsimp only [List.set_cons_zero, List.set_cons_succ]); (try clear g); intro g)
        refine bodyPost_ret (v := .tuple #[.agg #[.bool RR.1, .slice Z1 (limbs RR.2.1).length z1, .slice Z2 (limbs RR.2.2.1).length z2], .int .i64 RR.2.2.2]) (by simp [results, Tryd.results22, go_sem]) rfl ?_
        exact ⟨Z1, z1, R1, Z2, z2, R2, rfl, hz1, hz2, G.pass _ (by simp) ho1, G.pass _ (by simp) ho2⟩
end Go.Proofs.YtjdnpkicdmapnaaDoor
namespace Go.Proofs.YtjdnpkicdmapnaaDoor
open Go.RowKit GW NL
set_option maxRecDepth 20000 in
set_option maxHeartbeats 4000000 in
theorem rrcheck (s : Bool) (A B : Option Addr) (c k : Nat) (ln ld : List Nat) (w : World) (h1 : SlW w A c ln) (h2 : SlW w B k ld) :
    Calls Tryd.prog 57 #[.agg #[.bool s, .slice A ln.length c, .slice B ld.length k]] w fun e w' => e = .returned (.int .i64 (rchk s ln ld)) ∧ Below w.heap.size w w' := by
  refine calls_b fun g => ?_
  have CK1 := Lib.hid (fun w h => rcheck_any A c ln w h)
  have CK2 := Lib.hid (fun w h => rcheck_any B k ld w h)
  have H1 := Lib.hid h1
  have H2 := Lib.hid h2
  by_cases hx1 : chk ln = 0
  · by_cases hx2 : chk ld = 0
    · obtain ⟨e1, b1, b2⟩ := chk_ok h1.ok hx1
      obtain ⟨e2, b3, b4⟩ := chk_ok h2.ok hx2
      have hrc : rchk s ln ld = if val ld = 0 then 6 else if (s = true ∧ val ln = 0) ∨ Nat.gcd (val ln) (val ld) ≠ 1 then 3 else 0 := by
        unfold rchk
        rw [hx1, hx2, if_neg (by decide), if_neg (by decide)]
      rw [hx1] at CK1
      rw [hx2] at CK2
      have CG := Lib.hid (fun F w hF h1 h2 => rgcd_any F A B c k (val ln) (val ld) w hF h1 h2 (by rw [← e1]; omega) (by rw [← e2]; omega))
      have CU := Lib.hid (fun X x w h => isone_any X x (Nat.gcd (val ln) (val ld)) w h)
      rw [← e1, ← e2] at CG
      have z1 : (val ln = 0 ∧ ln.length = 0) ∨ (val ln ≠ 0 ∧ 0 < ln.length) := by
        rw [show ln.length = (limbs (val ln)).length by rw [← e1]]
        by_cases h : val ln = 0
        · left; rw [h]; exact ⟨rfl, by rw [limbs_zero]; rfl⟩
        · right; exact ⟨h, (limbs_ne h).2⟩
      have z2 : (val ld = 0 ∧ ld.length = 0) ∨ (val ld ≠ 0 ∧ 0 < ld.length) := by
        rw [show ld.length = (limbs (val ld)).length by rw [← e2]]
        by_cases h : val ld = 0
        · left; rw [h]; exact ⟨rfl, by rw [limbs_zero]; rfl⟩
        · right; exact ⟨h, (limbs_ne h).2⟩
      unfold RAli at CG
      clear h1 h2 hx1 hx2 e1 e2 b1 b2 b3 b4
      generalize ln.length = n1 at *
      generalize ld.length = n2 at *
      rw [hrc]
      clear hrc
      generalize val ln = v1 at *
      generalize val ld = v2 at *
      rcases z2 with ⟨k1, k2⟩ | ⟨k1, k2⟩
      · rw [if_pos k1]
        clear k1
        subst k2
        go_enter Tryd.func57, Tryd.ntmps57
        go_wp2_with (with_reducible refine G.any_mark _ ?_; (try generalize Array.size (World.heap (G.w _)) = bk); (try dsimp only [List.set_cons_zero, List.set_cons_succ]); (try clear g); intro g)
        refine (CK1.out _ (G.sl g (by simp) H1.out)).mono ?_
        rintro e w1 ⟨rfl, hb⟩
        obtain ⟨g1, rfl⟩ := G.call_ex _ hb
        clear hb
        (try clear g)
        revert g1
        intro g
        go_wp2_with (with_reducible refine G.any_mark _ ?_; (try generalize Array.size (World.heap (G.w _)) = bk); (try dsimp only [List.set_cons_zero, List.set_cons_succ]); (try clear g); intro g)
        refine (CK2.out _ (G.sl g (by simp) H2.out)).mono ?_
        rintro e w1 ⟨rfl, hb⟩
        obtain ⟨g1, rfl⟩ := G.call_ex _ hb
        clear hb
        (try clear g)
        revert g1
        intro g
        go_wp2_with (with_reducible refine G.any_mark _ ?_; (try generalize Array.size (World.heap (G.w _)) = bk); (try dsimp only [List.set_cons_zero, List.set_cons_succ]); (try clear g); intro g)
        go_ret
        exact ⟨rfl, G.below _⟩
      · rw [if_neg k1]
        have k3 : ((n2 : Int) == 0) = false := by rw [beq_eq_false_iff_ne]; omega
        by_cases hz : s = true ∧ v1 = 0
        · rw [if_pos (.inl hz)]
          obtain ⟨rfl, hz0⟩ := hz
          rcases z1 with ⟨k4, k5⟩ | ⟨k4, k5⟩
          · clear k4 hz0
            subst k5
            go_enter Tryd.func57, Tryd.ntmps57
            go_wp2_with (with_reducible refine G.any_mark _ ?_; (try generalize Array.size (World.heap (G.w _)) = bk); (try dsimp only [List.set_cons_zero, List.set_cons_succ]); (try clear g); intro g)
            refine (CK1.out _ (G.sl g (by simp) H1.out)).mono ?_
            rintro e w1 ⟨rfl, hb⟩
            obtain ⟨g1, rfl⟩ := G.call_ex _ hb
            clear hb
            (try clear g)
            revert g1
            intro g
            go_wp2_with (with_reducible refine G.any_mark _ ?_; (try generalize Array.size (World.heap (G.w _)) = bk); (try dsimp only [List.set_cons_zero, List.set_cons_succ]); (try clear g); intro g)
            refine (CK2.out _ (G.sl g (by simp) H2.out)).mono ?_
            rintro e w1 ⟨rfl, hb⟩
            obtain ⟨g1, rfl⟩ := G.call_ex _ hb
            clear hb
            (try clear g)
            revert g1
            intro g
            go_wp2_with (with_reducible refine G.any_mark _ ?_; (try generalize Array.size (World.heap (G.w _)) = bk); (try dsimp only [List.set_cons_zero, List.set_cons_succ]); (try clear g); intro g)
            go_ret
            exact ⟨rfl, G.below _⟩
          · exact absurd hz0 k4
        · have k6 : s = true → ((n1 : Int) == 0) = false := by
            intro hs
            rcases z1 with ⟨k4, k5⟩ | ⟨k4, k5⟩
            · exact absurd ⟨hs, k4⟩ hz
            · rw [beq_eq_false_iff_ne]; omega
          have hor : ((s = true ∧ v1 = 0) ∨ Nat.gcd v1 v2 ≠ 1) ↔ Nat.gcd v1 v2 ≠ 1 := ⟨fun h => h.elim (fun h => absurd h hz) id, .inr⟩
          simp only [hor]
          clear hor hz z1 k1 k2
          obtain ⟨bg, hbg⟩ : ∃ b, decide (Nat.gcd v1 v2 = 1) = b := ⟨_, rfl⟩
          have hfin : (if Nat.gcd v1 v2 ≠ 1 then (3 : Int) else 0) = if bg = true then 0 else 3 := by
            rw [← hbg]
            by_cases h : Nat.gcd v1 v2 = 1
            · rw [if_neg (by simpa using h), if_pos (by simpa using h)]
            · rw [if_pos h, if_neg (by simpa using h)]
          rw [hfin]
          rw [hbg] at CU
          clear hfin hbg
          cases s
          all_goals
            (try have k7 := k6 rfl)
            clear k6
            go_enter Tryd.func57, Tryd.ntmps57
            go_wp2_with (with_reducible refine G.any_mark _ ?_; (try generalize Array.size (World.heap (G.w _)) = bk); (try dsimp only [List.set_cons_zero, List.set_cons_succ]); (try clear g); intro g)
            refine (CK1.out _ (G.sl g (by simp) H1.out)).mono ?_
            rintro e w1 ⟨rfl, hb⟩
            obtain ⟨g1, rfl⟩ := G.call_ex _ hb
            clear hb
            (try clear g)
            revert g1
            intro g
            go_wp2_with (with_reducible refine G.any_mark _ ?_; (try generalize Array.size (World.heap (G.w _)) = bk); (try dsimp only [List.set_cons_zero, List.set_cons_succ]); (try clear g); intro g)
            refine (CK2.out _ (G.sl g (by simp) H2.out)).mono ?_
            rintro e w1 ⟨rfl, hb⟩
            obtain ⟨g1, rfl⟩ := G.call_ex _ hb
            clear hb
            (try clear g)
            revert g1
            intro g
            go_wp2_with (with_reducible refine G.any_mark _ ?_; (try generalize Array.size (World.heap (G.w _)) = bk); (try dsimp only [List.set_cons_zero, List.set_cons_succ]); (try clear g); intro g)
            refine (CG.out (g.fr (heapOf w)) _ (g.fr_sub (by simp)) (g.fr_sl (by simp) (Frag.over_self _ _) H1.out) (g.fr_sl (by simp) (Frag.over_self _ _) H2.out)).mono ?_
            rintro e w1 ⟨Ag, cg, Fg, rfl, hsg, hng⟩
            obtain ⟨g1, rfl, hov⟩ := g.newor_ex hng
            clear hng
            (try clear g)
            revert g1
            intro g
            go_wp2_with (with_reducible refine G.any_mark _ ?_; (try generalize Array.size (World.heap (G.w _)) = bk); (try dsimp only [List.set_cons_zero, List.set_cons_succ]); (try clear g); intro g)
            refine (CU.out Ag cg _ (G.sl g (by simp) hsg)).mono ?_
            rintro e w1 ⟨rfl, rfl⟩
            cases bg
            all_goals
              go_wp2_with (with_reducible refine G.any_mark _ ?_; (try generalize Array.size (World.heap (G.w _)) = bk); (try dsimp only [List.set_cons_zero, List.set_cons_succ]); (try clear g); intro g)
              go_ret
              exact ⟨rfl, G.below _⟩
    · have hp := chk_pos ld
      have hrc : rchk s ln ld = chk ld := by unfold rchk; rw [if_neg (by simpa using hx1), if_pos hx2]
      rw [hrc]
      rw [hx1] at CK1
      clear hrc hx1 h1 h2
      generalize ln.length = n1 at *
      generalize ld.length = n2 at *
      generalize chk ld = x2 at *
      rcases hp with h | h | h
      · exact absurd h hx2
      all_goals
        subst h
        clear hx2
        go_enter Tryd.func57, Tryd.ntmps57
        go_wp2_with (with_reducible refine G.any_mark _ ?_; (try generalize Array.size (World.heap (G.w _)) = bk); (try dsimp only [List.set_cons_zero, List.set_cons_succ]); (try clear g); intro g)
        refine (CK1.out _ (G.sl g (by simp) H1.out)).mono ?_
        rintro e w1 ⟨rfl, hb⟩
        obtain ⟨g1, rfl⟩ := G.call_ex _ hb
        clear hb
        (try clear g)
        revert g1
        intro g
        go_wp2_with (with_reducible refine G.any_mark _ ?_; (try generalize Array.size (World.heap (G.w _)) = bk); (try dsimp only [List.set_cons_zero, List.set_cons_succ]); (try clear g); intro g)
        refine (CK2.out _ (G.sl g (by simp) H2.out)).mono ?_
        rintro e w1 ⟨rfl, hb⟩
        obtain ⟨g1, rfl⟩ := G.call_ex _ hb
        clear hb
        (try clear g)
        revert g1
        intro g
        go_wp2_with (with_reducible refine G.any_mark _ ?_; (try generalize Array.size (World.heap (G.w _)) = bk); (try dsimp only [List.set_cons_zero, List.set_cons_succ]); (try clear g); intro g)
        go_ret
        exact ⟨rfl, G.below _⟩
  · have hp := chk_pos ln
    have hrc : rchk s ln ld = chk ln := by unfold rchk; rw [if_pos hx1]
    rw [hrc]
    clear hrc h1 h2
    generalize ln.length = n1 at *
    generalize ld.length = n2 at *
    generalize chk ln = x1 at *
    rcases hp with h | h | h
    · exact absurd h hx1
    all_goals
      subst h
      clear hx1
      go_enter Tryd.func57, Tryd.ntmps57
      go_wp2_with (with_reducible refine G.any_mark _ ?_; (try generalize Array.size (World.heap (G.w _)) = bk); (try dsimp only [List.set_cons_zero, List.set_cons_succ]); (try clear g); intro g)
      refine (CK1.out _ (G.sl g (by simp) H1.out)).mono ?_
      rintro e w1 ⟨rfl, hb⟩
      obtain ⟨g1, rfl⟩ := G.call_ex _ hb
      clear hb
      (try clear g)
      revert g1
      intro g
      go_wp2_with (with_reducible refine G.any_mark _ ?_; (try generalize Array.size (World.heap (G.w _)) = bk); (try dsimp only [List.set_cons_zero, List.set_cons_succ]); (try clear g); intro g)
      go_ret
      exact ⟨rfl, G.below _⟩
/-- Fits of numbers of few limbs, and of many. -/
theorem rFits_ok (s : Bool) (A B : Option Addr) (c k n d : Nat) (hn : n ≤ 256) (hd : d ≤ 256) (w : World) :
    Calls Tryd.prog 58 #[.agg #[.bool s, .slice A n c, .slice B d k]] w fun e w' => e = .returned (.tuple #[.agg #[.bool s, .slice A n c, .slice B d k], .int .i64 0]) ∧ Below w.heap.size w w' := by
  refine calls_b fun g => ?_
  have h1 : ¬ (256 : Int) < (n : Int) := by omega
  have h2 : ¬ (256 : Int) < (d : Int) := by omega
  clear hn hd
  go_enter Tryd.func58, Tryd.ntmps58
  go_wp2_with (with_reducible refine G.any_mark _ ?_; (try generalize Array.size (World.heap (G.w _)) = bk); (try dsimp only [List.set_cons_zero, List.set_cons_succ]); (try clear g); intro g)
  refine bodyPost_ret (v := .tuple #[.agg #[.bool s, .slice A n c, .slice B d k], .int .i64 0]) (by simp [results, Tryd.results58, go_sem]) rfl ?_
  exact ⟨rfl, G.below _⟩
theorem rFits_over (s : Bool) (A B : Option Addr) (c k n d : Nat) (hn : ¬ (n ≤ 256 ∧ d ≤ 256)) (w : World) :
    Calls Tryd.prog 58 #[.agg #[.bool s, .slice A n c, .slice B d k]] w fun e w' => e = .returned (.tuple #[.agg #[.bool false, .slice none 0 0, .slice none 0 0], .int .i64 5]) ∧ Below w.heap.size w w' := by
  refine calls_b fun g => ?_
  by_cases hn2 : n ≤ 256
  · have h1 : ¬ (256 : Int) < (n : Int) := by omega
    have h2 : (256 : Int) < (d : Int) := by omega
    clear hn hn2
    go_enter Tryd.func58, Tryd.ntmps58
    go_wp2_with (with_reducible refine G.any_mark _ ?_; (try generalize Array.size (World.heap (G.w _)) = bk); (try dsimp only [List.set_cons_zero, List.set_cons_succ]); (try clear g); intro g)
    refine bodyPost_ret (v := .tuple #[.agg #[.bool false, .slice none 0 0, .slice none 0 0], .int .i64 5]) (by simp [results, Tryd.results58, go_sem]) rfl ?_
    exact ⟨rfl, G.below _⟩
  · have h1 : (256 : Int) < (n : Int) := by omega
    clear hn hn2
    go_enter Tryd.func58, Tryd.ntmps58
    go_wp2_with (with_reducible refine G.any_mark _ ?_; (try generalize Array.size (World.heap (G.w _)) = bk); (try dsimp only [List.set_cons_zero, List.set_cons_succ]); (try clear g); intro g)
    refine bodyPost_ret (v := .tuple #[.agg #[.bool false, .slice none 0 0, .slice none 0 0], .int .i64 5]) (by simp [results, Tryd.results58, go_sem]) rfl ?_
    exact ⟨rfl, G.below _⟩
end Go.Proofs.YtjdnpkicdmapnaaDoor
namespace Go.Proofs.YtjdnpkicdmapnaaDoor
open Go.RowKit GW NL
theorem outX_bd {x : Rat} (h : Bd 8192 x) : outX x = (rneg x, rn x, x.den, 0) := by
  unfold outX outP; exact if_pos h
set_option maxRecDepth 20000 in
set_option maxHeartbeats 4000000 in
theorem rMake_any (s : Bool) (A B : Option Addr) (c k : Nat) (ln ld : List Nat) (w : World) (h1 : SlW w A c ln) (h2 : SlW w B k ld) :
    Calls Tryd.prog 23 #[.bool s, .slice A ln.length c, .slice B ld.length k] w (RPE (makX s ln ld) w) := by
  refine calls_b fun g => ?_
  have CK1 := Lib.hid (fun w h => rcheck_any A c ln w h)
  have CK2 := Lib.hid (fun w h => rcheck_any B k ld w h)
  have H1 := Lib.hid h1
  have H2 := Lib.hid h2
  by_cases hx1 : chk ln = 0
  · by_cases hx2 : chk ld = 0
    · obtain ⟨e1, b1, b2⟩ := chk_ok h1.ok hx1
      obtain ⟨e2, b3, b4⟩ := chk_ok h2.ok hx2
      have hm : makX s ln ld = if val ld = 0 then (false, 0, 0, 6) else outX (frac s (val ln) (val ld)) := by
        unfold makX
        rw [if_neg (by simpa using hx1), if_neg (by simpa using hx2)]
      rw [hm]
      clear hm
      rw [hx1] at CK1
      rw [hx2] at CK2
      by_cases hz : val ld = 0
      · rw [if_pos hz]
        have hl : ld.length = 0 := by rw [e2, hz, limbs_zero]; rfl
        rw [hl] at CK2 ⊢
        clear hz hl h1 h2 hx1 hx2 e1 e2 b1 b2 b3 b4
        generalize ln.length = n1 at *
        go_enter Tryd.func23, Tryd.ntmps23
        go_wp2_with (with_reducible refine G.any_mark _ ?_; (try generalize Array.size (World.heap (G.w _)) = bk); (try dsimp only [List.set_cons_zero, List.set_cons_succ]); (try clear g); intro g)
        refine (CK1.out _ (G.sl g (by simp) H1.out)).mono ?_
        rintro e w1 ⟨rfl, hb⟩
        obtain ⟨g1, rfl⟩ := G.call_ex _ hb
        clear hb
        (try clear g)
        revert g1
        intro g
        go_wp2_with (with_reducible refine G.any_mark _ ?_; (try generalize Array.size (World.heap (G.w _)) = bk); (try dsimp only [List.set_cons_zero, List.set_cons_succ]); (try clear g); intro g)
        refine (CK2.out _ (G.sl g (by simp) H2.out)).mono ?_
        rintro e w1 ⟨rfl, hb⟩
        obtain ⟨g1, rfl⟩ := G.call_ex _ hb
        clear hb
        (try clear g)
        revert g1
        intro g
        go_wp2_with (with_reducible refine G.any_mark _ ?_; (try generalize Array.size (World.heap (G.w _)) = bk); (try dsimp only [List.set_cons_zero, List.set_cons_succ]); (try clear g); intro g)
        refine bodyPost_ret (v := .tuple #[.agg #[.bool false, .slice none 0 0, .slice none 0 0], .int .i64 6]) (by simp [results, Tryd.results23, go_sem]) rfl ?_
        exact rpe_err _ _
      · rw [if_neg hz]
        have CL := Lib.hid (fun w h1 h2 => rLow_any s A B c k (val ln) (val ld) w h1 h2 (by rw [← e1]; omega) (by rw [← e2]; omega) hz)
        rw [← e1, ← e2] at CL
        rw [outX_bd (Bd.frac s hz b1 b3)]
        unfold RPE
        unfold RNf at CL
        dsimp only
        have k3 : ((ld.length : Int) == 0) = false := by
          rw [beq_eq_false_iff_ne]
          intro h
          have : ld = [] := List.eq_nil_of_length_eq_zero (by omega)
          rw [this] at hz; exact hz rfl
        clear hz h1 h2 hx1 hx2 e1 e2 b1 b2 b3 b4
        generalize frac s (val ln) (val ld) = z at *
        generalize ln.length = n1 at *
        generalize ld.length = n2 at *
        generalize rneg z = sz at *
        generalize (limbs (rn z)).length = lz at *
        generalize (limbs z.den).length = mz at *
        go_enter Tryd.func23, Tryd.ntmps23
        go_wp2_with (with_reducible refine G.any_mark _ ?_; (try generalize Array.size (World.heap (G.w _)) = bk); (try dsimp only [List.set_cons_zero, List.set_cons_succ]); (try clear g); intro g)
        refine (CK1.out _ (G.sl g (by simp) H1.out)).mono ?_
        rintro e w1 ⟨rfl, hb⟩
        obtain ⟨g1, rfl⟩ := G.call_ex _ hb
        clear hb
        (try clear g)
        revert g1
        intro g
        go_wp2_with (with_reducible refine G.any_mark _ ?_; (try generalize Array.size (World.heap (G.w _)) = bk); (try dsimp only [List.set_cons_zero, List.set_cons_succ]); (try clear g); intro g)
        refine (CK2.out _ (G.sl g (by simp) H2.out)).mono ?_
        rintro e w1 ⟨rfl, hb⟩
        obtain ⟨g1, rfl⟩ := G.call_ex _ hb
        clear hb
        (try clear g)
        revert g1
        intro g
        go_wp2_with (with_reducible refine G.any_mark _ ?_; (try generalize Array.size (World.heap (G.w _)) = bk); (try dsimp only [List.set_cons_zero, List.set_cons_succ]); (try clear g); intro g)
        (try (refine cmark _ ?_; (try dsimp only [List.set_cons_zero, List.set_cons_succ]); (try clear g); intro g))
        refine (CL.out _ (G.sl g (by simp) H1.out) (G.sl g (by simp) H2.out)).mono ?_
        rintro e w1 ⟨Aq, cq, Fq, Bq, dq, Hq, rfl, hsq, htq, hn, hm⟩
        have hnnq := fun k o hk => Nat.le_trans g.chg.size (hn.new k o hk)
        have hmmq := fun k o hk => Nat.le_trans g.chg.size (hm.new k o hk)
        obtain ⟨g1, rfl⟩ := G.new2_ex _ hn hm
        clear hn hm
        (try clear g)
        revert g1
        intro g
        go_wp2_with (with_reducible refine G.any_mark _ ?_; (try generalize Array.size (World.heap (G.w _)) = bk); (try dsimp only [List.set_cons_zero, List.set_cons_succ]); (try clear g); intro g)
        refine bodyPost_ret (v := .tuple #[.agg #[.bool sz, .slice Aq lz cq, .slice Bq mz dq], .int .i64 0]) (by simp [results, Tryd.results23, go_sem]) rfl ?_
        exact ⟨Aq, cq, Fq, Bq, dq, Hq, rfl, hsq, htq, G.pass _ (by simp) hnnq, G.pass _ (by simp) hmmq⟩
    · have hp := chk_pos ld
      have hrc : makX s ln ld = (false, 0, 0, chk ld) := by unfold makX; rw [if_neg (by simpa using hx1), if_pos hx2]
      rw [hrc]
      rw [hx1] at CK1
      clear hrc hx1 h1 h2
      generalize ln.length = n1 at *
      generalize ld.length = n2 at *
      generalize chk ld = x2 at *
      rcases hp with h | h | h
      · exact absurd h hx2
      all_goals
        subst h
        clear hx2
        go_enter Tryd.func23, Tryd.ntmps23
        go_wp2_with (with_reducible refine G.any_mark _ ?_; (try generalize Array.size (World.heap (G.w _)) = bk); (try dsimp only [List.set_cons_zero, List.set_cons_succ]); (try clear g); intro g)
        refine (CK1.out _ (G.sl g (by simp) H1.out)).mono ?_
        rintro e w1 ⟨rfl, hb⟩
        obtain ⟨g1, rfl⟩ := G.call_ex _ hb
        clear hb
        (try clear g)
        revert g1
        intro g
        go_wp2_with (with_reducible refine G.any_mark _ ?_; (try generalize Array.size (World.heap (G.w _)) = bk); (try dsimp only [List.set_cons_zero, List.set_cons_succ]); (try clear g); intro g)
        refine (CK2.out _ (G.sl g (by simp) H2.out)).mono ?_
        rintro e w1 ⟨rfl, hb⟩
        obtain ⟨g1, rfl⟩ := G.call_ex _ hb
        clear hb
        (try clear g)
        revert g1
        intro g
        go_wp2_with (with_reducible refine G.any_mark _ ?_; (try generalize Array.size (World.heap (G.w _)) = bk); (try dsimp only [List.set_cons_zero, List.set_cons_succ]); (try clear g); intro g)
        refine bodyPost_ret (v := .tuple #[.agg #[.bool false, .slice none 0 0, .slice none 0 0], _]) (by simp [results, Tryd.results23, go_sem]; rfl) rfl ?_
        exact rpe_err _ _
  · have hp := chk_pos ln
    have hrc : makX s ln ld = (false, 0, 0, chk ln) := by unfold makX; rw [if_pos hx1]
    rw [hrc]
    clear hrc h1 h2
    generalize ln.length = n1 at *
    generalize ld.length = n2 at *
    generalize chk ln = x1 at *
    rcases hp with h | h | h
    · exact absurd h hx1
    all_goals
      subst h
      clear hx1
      go_enter Tryd.func23, Tryd.ntmps23
      go_wp2_with (with_reducible refine G.any_mark _ ?_; (try generalize Array.size (World.heap (G.w _)) = bk); (try dsimp only [List.set_cons_zero, List.set_cons_succ]); (try clear g); intro g)
      refine (CK1.out _ (G.sl g (by simp) H1.out)).mono ?_
      rintro e w1 ⟨rfl, hb⟩
      obtain ⟨g1, rfl⟩ := G.call_ex _ hb
      clear hb
      (try clear g)
      revert g1
      intro g
      go_wp2_with (with_reducible refine G.any_mark _ ?_; (try generalize Array.size (World.heap (G.w _)) = bk); (try dsimp only [List.set_cons_zero, List.set_cons_succ]); (try clear g); intro g)
      refine bodyPost_ret (v := .tuple #[.agg #[.bool false, .slice none 0 0, .slice none 0 0], _]) (by simp [results, Tryd.results23, go_sem]; rfl) rfl ?_
      exact rpe_err _ _
/-- Minus and Plus by the numbers of core's Rat. -/
theorem rMinus_x (x : Rat) (A1 A2 : Option Addr) (c1 c2 : Nat) (w : World) (h1 : SlW w A1 c1 (limbs (rn x))) (h2 : SlW w A2 c2 (limbs x.den)) (hl1 : (limbs (rn x)).length ≤ 10000000) (hl2 : (limbs x.den).length ≤ 10000000) :
    Calls Tryd.prog 86 #[.agg #[.bool (rneg x), .slice A1 (limbs (rn x)).length c1, .slice A2 (limbs x.den).length c2]] w (RNf (-x) w) := by
  unfold RNf
  rw [rneg_neg, rn_neg, Rat.neg_den]
  exact rMinus_any (rneg x) A1 A2 c1 c2 (rn x) x.den w h1 h2 hl1 hl2
theorem rPlus_x (x y : Rat) (A1 B1 A2 B2 : Option Addr) (c1 k1 c2 k2 : Nat) (w : World) (h1 : SlW w A1 c1 (limbs (rn x))) (j1 : SlW w B1 k1 (limbs x.den)) (h2 : SlW w A2 c2 (limbs (rn y))) (j2 : SlW w B2 k2 (limbs y.den))
    (l1 : (limbs (rn x)).length ≤ 1000000) (m1 : (limbs x.den).length ≤ 1000000) (l2 : (limbs (rn y)).length ≤ 1000000) (m2 : (limbs y.den).length ≤ 1000000) :
    Calls Tryd.prog 87 #[.agg #[.bool (rneg x), .slice A1 (limbs (rn x)).length c1, .slice B1 (limbs x.den).length k1], .agg #[.bool (rneg y), .slice A2 (limbs (rn y)).length c2, .slice B2 (limbs y.den).length k2]] w (RNf (x + y) w) := by
  have := rPlus_any (rneg x) (rneg y) A1 B1 A2 B2 c1 k1 c2 k2 (rn x) x.den (rn y) y.den w h1 j1 h2 j2 l1 m1 l2 m2 x.den_nz y.den_nz
  rwa [frac_self, frac_self] at this
set_option maxRecDepth 20000 in
set_option maxHeartbeats 4000000 in
theorem rDown_x (x : Rat) (A B : Option Addr) (c k : Nat) (w : World) (h1 : SlW w A c (limbs (rn x))) (j1 : SlW w B k (limbs x.den)) (l1 : (limbs (rn x)).length ≤ 1000000) (m1 : (limbs x.den).length ≤ 1000000) :
    Calls Tryd.prog 59 #[.agg #[.bool (rneg x), .slice A (limbs (rn x)).length c, .slice B (limbs x.den).length k]] w (RNf (x.floor : Rat) w) := by
  refine calls_b fun g => ?_
  obtain ⟨f1, f2, f3⟩ := floor_int x
  unfold RNf
  rw [f1, f2, f3]
  clear f1 f2 f3
  have hd := x.den_nz
  generalize rneg x = s at *
  generalize rn x = n at *
  generalize x.den = d at *
  have CQ := Lib.hid (fun w h1 h2 => rquot_any A B c k n d w h1 h2 (by omega) (by omega) hd)
  have CO := Lib.hid rone_any
  have hq := limbs_len_mono (Nat.div_le_self n d)
  have CP := Lib.hid (fun A1 A2 c1 c2 w h1 h2 => rPlus3_any A1 A2 c1 c2 (n / d) 1 w h1 h2 (by omega) (by rw [limbs_one (by decide) (by decide)]; decide))
  unfold RNN at CQ
  unfold RNat at CO CP
  have hr0 : (n % d = 0 ∧ (limbs (n % d)).length = 0) ∨ (n % d ≠ 0 ∧ (0 : Int) < (((limbs (n % d)).length : Nat) : Int)) := by
    by_cases h : n % d = 0
    · left; rw [h]; exact ⟨rfl, limbs_len0⟩
    · right; have := (limbs_ne h).2; exact ⟨h, by omega⟩
  by_cases hc : s = true ∧ n % d ≠ 0
  · obtain ⟨rfl, hr⟩ := hc
    have hfl : flq' true n d = n / d + 1 := by unfold flq'; rw [if_pos ⟨rfl, hr⟩]
    rw [hfl]
    have hp := (limbs_ne (Nat.succ_ne_zero (n / d))).2
    rw [show (true && decide (n / d + 1 ≠ 0)) = true by simp]
    have hr2 := (hr0.resolve_left (fun h => hr h.1)).2
    clear hfl hr hr0 l1 m1 hd hq
    generalize (limbs (n / d + 1)).length = lq at *
    generalize (limbs (n / d)).length = lq0 at *
    generalize (limbs (n % d)).length = lr at *
    generalize (limbs 1).length = o1 at *
    generalize (limbs n).length = ln at *
    generalize (limbs d).length = ld at *
    have H1 := Lib.hid h1
    have J1 := Lib.hid j1
    clear h1 j1
    go_enter Tryd.func59, Tryd.ntmps59
    go_wp2_with (with_reducible refine G.any_mark _ ?_; (try generalize Array.size (World.heap (G.w _)) = bk); (try dsimp only [List.set_cons_zero, List.set_cons_succ]); (try clear g); intro g)
    refine (CQ.out _ (G.sl g (by simp) H1.out) (G.sl g (by simp) J1.out)).mono ?_
    rintro e w1 ⟨Aq, cq, Fq, Bq, dq, Hq, rfl, hsq, htq, hn, hm⟩
    have hnnq := fun k o hk => Nat.le_trans g.chg.size (hn.new k o hk)
    have hmmq := fun k o hk => Nat.le_trans g.chg.size (hm.new k o hk)
    obtain ⟨g1, rfl⟩ := G.new2_ex _ hn hm
    clear hn hm
    (try clear g)
    revert g1
    intro g
    go_wp2_with (with_reducible refine G.any_mark _ ?_; (try generalize Array.size (World.heap (G.w _)) = bk); (try dsimp only [List.set_cons_zero, List.set_cons_succ]); (try clear g); intro g)
    refine (CO.out _).mono ?_
    rintro e w1 ⟨Ai, ci, Fi, rfl, hsi, hn⟩
    have hnni := fun k o hk => Nat.le_trans g.chg.size (hn.new k o hk)
    obtain ⟨g1, rfl⟩ := G.new_ex _ hn
    clear hn
    (try clear g)
    revert g1
    intro g
    go_wp2_with (with_reducible refine G.any_mark _ ?_; (try generalize Array.size (World.heap (G.w _)) = bk); (try dsimp only [List.set_cons_zero, List.set_cons_succ]); (try clear g); intro g)
    refine (CP.out _ _ _ _ _ (G.sl g (by simp) hsq) (G.sl g (by simp) hsi)).mono ?_
    rintro e w1 ⟨Ap, cp, Fp, rfl, hsp, hn⟩
    have hnnp := fun k o hk => Nat.le_trans g.chg.size (hn.new k o hk)
    obtain ⟨g1, rfl⟩ := G.new_ex _ hn
    clear hn
    (try clear g)
    revert g1
    intro g
    go_wp2_with (with_reducible refine G.any_mark _ ?_; (try generalize Array.size (World.heap (G.w _)) = bk); (try dsimp only [List.set_cons_zero, List.set_cons_succ]); (try clear g); intro g)
    refine (CO.out _).mono ?_
    rintro e w1 ⟨Ao, co, Fo, rfl, hso, hn⟩
    have hnno := fun k o hk => Nat.le_trans g.chg.size (hn.new k o hk)
    obtain ⟨g1, rfl⟩ := G.new_ex _ hn
    clear hn
    (try clear g)
    revert g1
    intro g
    go_wp2_with (with_reducible refine G.any_mark _ ?_; (try generalize Array.size (World.heap (G.w _)) = bk); (try dsimp only [List.set_cons_zero, List.set_cons_succ]); (try clear g); intro g)
    refine bodyPost_ret (v := .agg #[.bool true, .slice Ap lq cp, .slice Ao o1 co]) (by simp [results, Tryd.results59, go_sem, hp]) rfl ?_
    exact ⟨Ap, cp, Fp, Ao, co, Fo, rfl, hsp, hso, G.pass _ (by simp) hnnp, G.pass _ (by simp) hnno⟩
  · have hfl : flq' s n d = n / d := by unfold flq'; rw [if_neg hc]
    rw [hfl]
    obtain ⟨bb, hbb⟩ : ∃ bb, (s && decide (n / d ≠ 0)) = bb := ⟨_, rfl⟩
    rw [hbb]
    have hq0 : s = true → decide (0 < (limbs (n / d)).length) = bb := by
      rintro rfl
      rw [← hbb, Bool.true_and]
      by_cases h : n / d = 0
      · rw [h, limbs_len0]; rfl
      · have := (limbs_ne h).2
        rw [decide_eq_true h, decide_eq_true this]
    have hq1 : s = false → bb = false := by rintro rfl; rw [← hbb]; rfl
    have hr2 : s = true → (limbs (n % d)).length = 0 := by
      rintro rfl
      rcases hr0 with h | h
      · exact h.2
      · exact absurd ⟨rfl, h.1⟩ hc
    clear hfl hbb hr0 hc l1 m1 hd hq CP
    generalize (limbs (n / d)).length = lq at *
    generalize (limbs (n % d)).length = lr at *
    generalize (limbs 1).length = o1 at *
    generalize (limbs n).length = ln at *
    generalize (limbs d).length = ld at *
    have H1 := Lib.hid h1
    have J1 := Lib.hid j1
    clear h1 j1
    cases s
    · obtain rfl := hq1 rfl
      clear hq0 hr2 hq1
      go_enter Tryd.func59, Tryd.ntmps59
      go_wp2_with (with_reducible refine G.any_mark _ ?_; (try generalize Array.size (World.heap (G.w _)) = bk); (try dsimp only [List.set_cons_zero, List.set_cons_succ]); (try clear g); intro g)
      refine (CQ.out _ (G.sl g (by simp) H1.out) (G.sl g (by simp) J1.out)).mono ?_
      rintro e w1 ⟨Aq, cq, Fq, Bq, dq, Hq, rfl, hsq, htq, hn, hm⟩
      have hnnq := fun k o hk => Nat.le_trans g.chg.size (hn.new k o hk)
      have hmmq := fun k o hk => Nat.le_trans g.chg.size (hm.new k o hk)
      obtain ⟨g1, rfl⟩ := G.new2_ex _ hn hm
      clear hn hm
      (try clear g)
      revert g1
      intro g
      go_wp2_with (with_reducible refine G.any_mark _ ?_; (try generalize Array.size (World.heap (G.w _)) = bk); (try dsimp only [List.set_cons_zero, List.set_cons_succ]); (try clear g); intro g)
      refine (CO.out _).mono ?_
      rintro e w1 ⟨Ao, co, Fo, rfl, hso, hn⟩
      have hnno := fun k o hk => Nat.le_trans g.chg.size (hn.new k o hk)
      obtain ⟨g1, rfl⟩ := G.new_ex _ hn
      clear hn
      (try clear g)
      revert g1
      intro g
      go_wp2_with (with_reducible refine G.any_mark _ ?_; (try generalize Array.size (World.heap (G.w _)) = bk); (try dsimp only [List.set_cons_zero, List.set_cons_succ]); (try clear g); intro g)
      refine bodyPost_ret (v := .agg #[.bool false, .slice Aq lq cq, .slice Ao o1 co]) (by simp [results, Tryd.results59, go_sem]) rfl ?_
      exact ⟨Aq, cq, Fq, Ao, co, Fo, rfl, hsq, hso, G.pass _ (by simp) hnnq, G.pass _ (by simp) hnno⟩
    · have hq0 := hq0 rfl
      obtain rfl := hr2 rfl
      clear hq1
      go_enter Tryd.func59, Tryd.ntmps59
      go_wp2_with (with_reducible refine G.any_mark _ ?_; (try generalize Array.size (World.heap (G.w _)) = bk); (try dsimp only [List.set_cons_zero, List.set_cons_succ]); (try clear g); intro g)
      refine (CQ.out _ (G.sl g (by simp) H1.out) (G.sl g (by simp) J1.out)).mono ?_
      rintro e w1 ⟨Aq, cq, Fq, Bq, dq, Hq, rfl, hsq, htq, hn, hm⟩
      have hnnq := fun k o hk => Nat.le_trans g.chg.size (hn.new k o hk)
      have hmmq := fun k o hk => Nat.le_trans g.chg.size (hm.new k o hk)
      obtain ⟨g1, rfl⟩ := G.new2_ex _ hn hm
      clear hn hm
      (try clear g)
      revert g1
      intro g
      go_wp2_with (with_reducible refine G.any_mark _ ?_; (try generalize Array.size (World.heap (G.w _)) = bk); (try dsimp only [List.set_cons_zero, List.set_cons_succ]); (try clear g); intro g)
      refine (CO.out _).mono ?_
      rintro e w1 ⟨Ao, co, Fo, rfl, hso, hn⟩
      have hnno := fun k o hk => Nat.le_trans g.chg.size (hn.new k o hk)
      obtain ⟨g1, rfl⟩ := G.new_ex _ hn
      clear hn
      (try clear g)
      revert g1
      intro g
      go_wp2_with (with_reducible refine G.any_mark _ ?_; (try generalize Array.size (World.heap (G.w _)) = bk); (try dsimp only [List.set_cons_zero, List.set_cons_succ]); (try clear g); intro g)
      refine bodyPost_ret (v := .agg #[.bool bb, .slice Aq lq cq, .slice Ao o1 co]) (by simp [results, Tryd.results59, go_sem, hq0]) rfl ?_
      exact ⟨Aq, cq, Fq, Ao, co, Fo, rfl, hsq, hso, G.pass _ (by simp) hnnq, G.pass _ (by simp) hnno⟩
end Go.Proofs.YtjdnpkicdmapnaaDoor
namespace Go.Proofs.YtjdnpkicdmapnaaDoor
open Go.RowKit GW NL
theorem or_u64_comm (x y : Int) : bits .or .u64 x y = bits .or .u64 y x := by
  show IntKind.u64.wrap ((BitVec.ofInt 64 x ||| BitVec.ofInt 64 y).toNat : Int) = IntKind.u64.wrap ((BitVec.ofInt 64 y ||| BitVec.ofInt 64 x).toNat : Int)
  rw [BitVec.or_comm]
theorem or_u64_add (x y k : Nat) (hk : k ≤ 63) (hx : x < 2 ^ k) (hy : y + x < 18446744073709551616) (hd : y % 2 ^ k = 0) : bits .or .u64 (x : Int) (y : Int) = ((y + x : Nat) : Int) := by
  have lt : 2 ^ k ≤ 2 ^ 63 := Nat.pow_le_pow_right (by omega) hk
  have e : (BitVec.ofInt 64 (x : Int) ||| BitVec.ofInt 64 (y : Int)).toNat = y + x := by
    rw [BitVec.toNat_or, BitVec.ofInt_natCast, BitVec.ofInt_natCast, BitVec.toNat_ofNat, BitVec.toNat_ofNat, Nat.mod_eq_of_lt (by omega), Nat.mod_eq_of_lt (by omega)]
    have hm : y = 2 ^ k * (y / 2 ^ k) := by have := Nat.div_add_mod y (2 ^ k); omega
    rw [Nat.or_comm]
    conv => lhs; rw [hm]
    rw [← Nat.two_pow_add_eq_or_of_lt hx]
    omega
  show IntKind.u64.wrap ((BitVec.ofInt 64 (x : Int) ||| BitVec.ofInt 64 (y : Int)).toNat : Int) = _
  rw [e, IntKind.wrap_u64]
  omega
/-- what Int answers -/
def intX (s : Bool) (l m : List Nat) : Int × Int := if rchk s l m ≠ 0 then (0, rchk s l m) else if val m ≠ 1 then (0, 18) else if 9223372036854775808 < val l ∨ (val l = 9223372036854775808 ∧ s = false) then (0, 5) else ((if s = true then -(val l : Int) else (val l : Int)), 0)
set_option maxRecDepth 20000 in
set_option maxHeartbeats 4000000 in
theorem qInt_any (s : Bool) (A B : Option Addr) (c k : Nat) (l m : List Nat) (w : World) (h1 : SlW w A c l) (h2 : SlW w B k m) (hT : Tab w) :
    Calls Tryd.prog 28 #[.agg #[.bool s, .slice A l.length c, .slice B m.length k]] w fun e w' => e = .returned (.tuple #[.int .i64 (intX s l m).1, .int .i64 (intX s l m).2]) ∧ Below w.heap.size w w' := by
  refine calls_b fun g => ?_
  have CK := Lib.hid (fun w a b t => rcheck s A B c k l m w a b t)
  obtain ⟨RR, hRR⟩ : ∃ R, intX s l m = R := ⟨_, rfl⟩
  rw [hRR]
  unfold intX at hRR
  by_cases hx : rchk s l m = 0
  · rw [hx] at CK
    rw [if_neg (by omega)] at hRR
    obtain ⟨e1, e2, e3, _, _, e6, e7⟩ := rchk_ok h1.ok h2.ok hx
    have CO := Lib.hid (fun w => of_any s A B c k l.length m.length w)
    have CU := Lib.hid (fun w h => lunit_any B k (val m) w h)
    rw [← e2] at CU
    by_cases hd : val m = 1
    · rw [if_neg (by omega)] at hRR
      rw [decide_eq_true hd] at CU
      have CL0 := Lib.hid (fun w h => lat_any A c l 0 w h (by omega))
      have CL1 := Lib.hid (fun w h => lat_any A c l 1 w h (by omega))
      rw [show ((0 : Nat) : Int) = 0 from rfl] at CL0
      rw [show ((1 : Nat) : Int) = 1 from rfl] at CL1
      have g0 := getD_val l h1.ok 0
      have g1 := getD_val l h1.ok 1
      rw [Nat.pow_zero, Nat.div_one] at g0
      rw [Nat.pow_one] at g1
      have hlen : l.length ≤ 2 ↔ val l < 18446744073709551616 := by
        rw [show l.length = (limbs (val l)).length by rw [← e1], limbs_len]
      generalize l.getD 0 0 = x at *
      generalize l.getD 1 0 = y at *
      generalize val l = V at *
      have H1 := Lib.hid h1
      have H2 := Lib.hid h2
      have HT := Lib.hid hT
      clear h1 h2 hT hx e1 e2 e3 e6 e7 hd
      generalize l.length = n at *
      generalize m.length = d at *
      have hx9 : x < 4294967296 := by omega
      have hy9 : y < 4294967296 := by omega
      obtain ⟨M, hM⟩ : ∃ M, V % 18446744073709551616 = M := ⟨_, rfl⟩
      have hyM : y * 4294967296 + x = M := by omega
      have hor : bits .or .u64 ((y : Int) * 4294967296) (x : Int) = (M : Int) := by
        rw [show (y : Int) * 4294967296 = ((y * 4294967296 : Nat) : Int) by omega, or_u64_comm, or_u64_add _ _ 32 (by omega) (by omega) (by omega) (by omega)]
        omega
      have hw1 : IntKind.u64.wrap (y : Int) = (y : Int) := by rw [IntKind.wrap_u64]; omega
      have hw2 : IntKind.u64.wrap (x : Int) = (x : Int) := by rw [IntKind.wrap_u64]; omega
      have hw3 : IntKind.u64.wrap ((y : Int) * 4294967296) = (y : Int) * 4294967296 := by rw [IntKind.wrap_u64]; omega
      have HV := Lib.hid (And.intro hlen (And.intro hM hRR))
      clear hlen hM hRR g0 g1
      go_enter Tryd.func28, Tryd.ntmps28
      go_wp2_with (with_reducible refine G.any_mark _ ?_; (try generalize Array.size (World.heap (G.w _)) = bk); (try dsimp only [List.set_cons_zero, List.set_cons_succ]); (try clear g); intro g)
      refine (CK.out _ (G.sl g (by simp) H1.out) (G.sl g (by simp) H2.out) (G.tab g HT.out)).mono ?_
      rintro e w1 ⟨rfl, hb⟩
      obtain ⟨g1, rfl⟩ := G.call_ex _ hb
      clear hb
      (try clear g)
      revert g1
      intro g
      go_wp2_with (with_reducible refine G.any_mark _ ?_; (try generalize Array.size (World.heap (G.w _)) = bk); (try dsimp only [List.set_cons_zero, List.set_cons_succ]); (try clear g); intro g)
      refine (CO.out _).mono ?_
      rintro e w1 ⟨rfl, hb⟩
      obtain ⟨g1, rfl⟩ := G.call_ex _ hb
      clear hb
      (try clear g)
      revert g1
      intro g
      go_wp2_with (with_reducible refine G.any_mark _ ?_; (try generalize Array.size (World.heap (G.w _)) = bk); (try dsimp only [List.set_cons_zero, List.set_cons_succ]); (try clear g); intro g)
      (try (refine cmark _ ?_; (try dsimp only [List.set_cons_zero, List.set_cons_succ]); (try clear g); intro g))
      refine (CU.out _ (G.sl g (by simp) H2.out)).mono ?_
      rintro e w1 ⟨rfl, rfl⟩
      go_wp2_with (with_reducible refine G.any_mark _ ?_; (try generalize Array.size (World.heap (G.w _)) = bk); (try dsimp only [List.set_cons_zero, List.set_cons_succ]); (try clear g); intro g)
      go_region_held3 (G.heldN g [true, true]) (simp [G.heldN, HeldN, go_sem]) (first
        | (go_at_call 61; (with_reducible refine (CL1.out _ ?_).mono ?_); (· exact G.sl _ (by simp) H1.out); rintro e w1 ⟨rfl, rfl⟩)
        | (go_at_call 61; (with_reducible refine (CL0.out _ ?_).mono ?_); (· exact G.sl _ (by simp) H1.out); rintro e w1 ⟨rfl, rfl⟩))
      all_goals obtain ⟨hlen, hM, hRR⟩ := HV.out
      all_goals clear HV hw1 hw2 hw3 hor hyM hx9 hy9 CL0 CL1 CU CO CK H1 H2 HT
      all_goals obtain ⟨q, hq⟩ : ∃ q : Int, (M : Int) = q := ⟨_, rfl⟩
      all_goals rw [hq]
      all_goals by_cases h2 : n ≤ 2
      all_goals (try have hV' : ¬ V < 18446744073709551616 := fun h => h2 (hlen.2 h))
      · have hV := hlen.1 h2
        rw [Nat.mod_eq_of_lt hV] at hM
        subst hM
        have h2i : ¬ ((2 : Int) < (n : Int)) := by omega
        clear hlen hV h2
        rcases Nat.lt_trichotomy V 9223372036854775808 with h3 | h3 | h3
        · rw [if_neg (by omega)] at hRR
          have h4 : ¬ ((9223372036854775808 : Int) < q) := by omega
          have h5 : (q == 9223372036854775808) = false := by rw [beq_eq_false_iff_ne]; omega
          have h8 : IntKind.i64.wrap q = q := by rw [IntKind.wrap_i64]; omega
          obtain ⟨N, hN⟩ : ∃ N, IntKind.u64.wrap (-q) = N := ⟨_, rfl⟩
          obtain ⟨r, hr⟩ : ∃ r, -q = r := ⟨_, rfl⟩
          have h9 : IntKind.i64.wrap N = r := by rw [← hN, IntKind.wrap_u64, IntKind.wrap_i64]; omega
          rw [hq, hr] at hRR
          clear hq h3 
          rcases s with _ | _
          · have HRR := Lib.hid hRR
            clear hRR hr hN h9
            go_wp2_with (with_reducible refine G.any_mark _ ?_; (try generalize Array.size (World.heap (G.w _)) = bk); (try dsimp only [List.set_cons_zero, List.set_cons_succ]); (try clear g); intro g)
            go_ret2
            rw [← HRR.out]
            exact ⟨rfl, G.below _⟩
          · have HRR := Lib.hid hRR
            have HR := Lib.hid hr
            clear hRR hr h8
            go_wp2_with (with_reducible refine G.any_mark _ ?_; (try generalize Array.size (World.heap (G.w _)) = bk); (try dsimp only [List.set_cons_zero, List.set_cons_succ]); (try clear g); intro g)
            go_ret2
            rw [← HRR.out]
            exact ⟨rfl, G.below _⟩
        · subst h3
          have hq' : q = 9223372036854775808 := by omega
          subst hq'
          have h8 : IntKind.u64.wrap (-9223372036854775808) = 9223372036854775808 := by rw [IntKind.wrap_u64]; omega
          have h9 : IntKind.i64.wrap 9223372036854775808 = -9223372036854775808 := by rw [IntKind.wrap_i64]; omega
          clear hq
          rcases s with _ | _
          · rw [if_pos (.inr ⟨rfl, rfl⟩)] at hRR
            have HRR := Lib.hid hRR
            clear hRR
            go_wp2_with (with_reducible refine G.any_mark _ ?_; (try generalize Array.size (World.heap (G.w _)) = bk); (try dsimp only [List.set_cons_zero, List.set_cons_succ]); (try clear g); intro g)
            go_ret2
            rw [← HRR.out]
            exact ⟨rfl, G.below _⟩
          · rw [if_neg (by simp), if_pos rfl] at hRR
            have HRR := Lib.hid hRR
            clear hRR
            go_wp2_with (with_reducible refine G.any_mark _ ?_; (try generalize Array.size (World.heap (G.w _)) = bk); (try dsimp only [List.set_cons_zero, List.set_cons_succ]); (try clear g); intro g)
            go_ret2
            rw [← HRR.out]
            exact ⟨rfl, G.below _⟩
        · rw [if_pos (.inl h3)] at hRR
          have h4 : (9223372036854775808 : Int) < q := by omega
          have HRR := Lib.hid hRR
          clear hRR hq h3
          go_wp2_with (with_reducible refine G.any_mark _ ?_; (try generalize Array.size (World.heap (G.w _)) = bk); (try dsimp only [List.set_cons_zero, List.set_cons_succ]); (try clear g); intro g)
          go_ret2
          rw [← HRR.out]
          exact ⟨rfl, G.below _⟩
      · rw [if_pos (.inl (by omega))] at hRR
        have h2i : (2 : Int) < (n : Int) := by omega
        have HRR := Lib.hid hRR
        clear hRR hq hlen hM hV' h2
        go_wp2_with (with_reducible refine G.any_mark _ ?_; (try generalize Array.size (World.heap (G.w _)) = bk); (try dsimp only [List.set_cons_zero, List.set_cons_succ]); (try clear g); intro g)
        go_ret2
        rw [← HRR.out]
        exact ⟨rfl, G.below _⟩
    · rw [if_pos hd] at hRR
      rw [decide_eq_false hd] at CU
      have HRR := Lib.hid hRR
      have H1 := Lib.hid h1
      have H2 := Lib.hid h2
      have HT := Lib.hid hT
      clear h1 h2 hT hx e1 e2 e3 e6 e7 hd hRR
      generalize l.length = n at *
      generalize m.length = d at *
      go_enter Tryd.func28, Tryd.ntmps28
      go_wp2_with (with_reducible refine G.any_mark _ ?_; (try generalize Array.size (World.heap (G.w _)) = bk); (try dsimp only [List.set_cons_zero, List.set_cons_succ]); (try clear g); intro g)
      refine (CK.out _ (G.sl g (by simp) H1.out) (G.sl g (by simp) H2.out) (G.tab g HT.out)).mono ?_
      rintro e w1 ⟨rfl, hb⟩
      obtain ⟨g1, rfl⟩ := G.call_ex _ hb
      clear hb
      (try clear g)
      revert g1
      intro g
      go_wp2_with (with_reducible refine G.any_mark _ ?_; (try generalize Array.size (World.heap (G.w _)) = bk); (try dsimp only [List.set_cons_zero, List.set_cons_succ]); (try clear g); intro g)
      refine (CO.out _).mono ?_
      rintro e w1 ⟨rfl, hb⟩
      obtain ⟨g1, rfl⟩ := G.call_ex _ hb
      clear hb
      (try clear g)
      revert g1
      intro g
      go_wp2_with (with_reducible refine G.any_mark _ ?_; (try generalize Array.size (World.heap (G.w _)) = bk); (try dsimp only [List.set_cons_zero, List.set_cons_succ]); (try clear g); intro g)
      (try (refine cmark _ ?_; (try dsimp only [List.set_cons_zero, List.set_cons_succ]); (try clear g); intro g))
      refine (CU.out _ (G.sl g (by simp) H2.out)).mono ?_
      rintro e w1 ⟨rfl, rfl⟩
      go_wp2_with (with_reducible refine G.any_mark _ ?_; (try generalize Array.size (World.heap (G.w _)) = bk); (try dsimp only [List.set_cons_zero, List.set_cons_succ]); (try clear g); intro g)
      go_ret2
      rw [← HRR.out]
      exact ⟨rfl, G.below _⟩
  · rw [if_pos hx] at hRR
    have hx' : (rchk s l m == 0) = false := by simpa using hx
    have hx'' : (rchk s l m != 0) = true := by simpa using hx
    have HRR := Lib.hid hRR
    have H1 := Lib.hid h1
    have H2 := Lib.hid h2
    have HT := Lib.hid hT
    clear h1 h2 hT hx hRR
    generalize rchk s l m = r at *
    generalize l.length = n at *
    generalize m.length = d at *
    go_enter Tryd.func28, Tryd.ntmps28
    go_wp2_with (with_reducible refine G.any_mark _ ?_; (try generalize Array.size (World.heap (G.w _)) = bk); (try dsimp only [List.set_cons_zero, List.set_cons_succ]); (try clear g); intro g)
    refine (CK.out _ (G.sl g (by simp) H1.out) (G.sl g (by simp) H2.out) (G.tab g HT.out)).mono ?_
    rintro e w1 ⟨rfl, hb⟩
    obtain ⟨g1, rfl⟩ := G.call_ex _ hb
    clear hb
    (try clear g)
    revert g1
    intro g
    go_wp2_with (with_reducible refine G.any_mark _ ?_; (try generalize Array.size (World.heap (G.w _)) = bk); (try dsimp only [List.set_cons_zero, List.set_cons_succ]); (try clear g); intro g)
    go_ret2
    rw [← HRR.out]
    exact ⟨rfl, G.below _⟩
end Go.Proofs.YtjdnpkicdmapnaaDoor
namespace Go.Proofs.YtjdnpkicdmapnaaDoor
open Go.RowKit GW NL
theorem limbs_bd {k j : Nat} {v : Nat} (h : v < 2 ^ k) (hk : k ≤ 32 * j) : (limbs v).length ≤ j := by
  refine (limbs_len _ _).2 (Nat.lt_of_lt_of_le h ?_)
  rw [show (4294967296 : Nat) = 2 ^ 32 from rfl, ← Nat.pow_mul]
  exact Nat.pow_le_pow_right (by decide) hk
theorem half_parts : rneg (1 / 2 : Rat) = false ∧ rn (1 / 2 : Rat) = 1 ∧ (1 / 2 : Rat).den = 2 := by
  refine ⟨?_, ?_, ?_⟩ <;> decide +kernel
/-- Plus of one half, as Near calls it. -/
theorem rPlus_half (x : Rat) (A1 B1 A2 B2 : Option Addr) (c1 k1 c2 k2 : Nat) (w : World) (h1 : SlW w A1 c1 (limbs (rn x))) (j1 : SlW w B1 k1 (limbs x.den)) (h2 : SlW w A2 c2 (limbs 1)) (j2 : SlW w B2 k2 (limbs 2))
    (l1 : (limbs (rn x)).length ≤ 1000000) (m1 : (limbs x.den).length ≤ 1000000) :
    Calls Tryd.prog 87 #[.agg #[.bool (rneg x), .slice A1 (limbs (rn x)).length c1, .slice B1 (limbs x.den).length k1], .agg #[.bool false, .slice A2 (limbs 1).length c2, .slice B2 1 k2]] w (RNf (x + 1 / 2) w) := by
  obtain ⟨e1, e2, e3⟩ := half_parts
  have := rPlus_x x (1 / 2) A1 B1 A2 B2 c1 k1 c2 k2 w h1 j1 (by rw [e2]; exact h2) (by rw [e3]; exact j2) l1 m1 (by rw [e2, limbs_one (by decide) (by decide)]; decide) (by rw [e3, limbs_one (by decide) (by decide)]; decide)
  rw [e1, e2, e3, limbs_one (n := 2) (by decide) (by decide)] at this
  exact this
set_option maxRecDepth 20000 in
set_option maxHeartbeats 4000000 in
theorem rNear_x (x : Rat) (A B : Option Addr) (c k : Nat) (w : World) (h1 : SlW w A c (limbs (rn x))) (j1 : SlW w B k (limbs x.den)) (hx : Bd 30000000 x) :
    Calls Tryd.prog 60 #[.agg #[.bool (rneg x), .slice A (limbs (rn x)).length c, .slice B (limbs x.den).length k]] w (RNf ((rndz x : Int) : Rat) w) := by
  refine calls_b fun g => ?_
  have HN2 : Hid ((limbs 2).length = 1 ∧ [Value.int .u32 2] = u32s (limbs 2)) := Lib.hid ⟨by rw [limbs_one (by decide) (by decide)]; rfl, by rw [limbs_one (by decide) (by decide)]; rfl⟩
  have CO := Lib.hid rone_any
  unfold RNat at CO
  have hlen : ∀ {y : Rat} {k : Nat}, Bd k y → k ≤ 32000000 → (limbs (rn y)).length ≤ 1000000 ∧ (limbs y.den).length ≤ 1000000 := fun h hk => ⟨limbs_bd h.1 (by omega), limbs_bd h.2 (by omega)⟩
  have hhb : Bd 2 (1 / 2 : Rat) := by rw [← frac_half]; exact Bd.frac _ (by decide) (by decide) (by decide)
  have hq := rdq_floor x
  cases hs : rneg x
  · have hr : ((rndz x : Int) : Rat) = (((x + 1 / 2 : Rat).floor : Int) : Rat) := by
      unfold rndz
      rw [hs] at hq ⊢
      simp only [Bool.false_eq_true, if_false] at hq ⊢
      rw [hq]
    have hy := hx.add hhb
    have l1 := hlen hx (by decide)
    have l2 := hlen hy (by decide)
    have CP := Lib.hid (fun A2 B2 c2 k2 w h1 j1 h2 j2 => rPlus_half x A B A2 B2 c k c2 k2 w h1 j1 h2 j2 l1.1 l1.2)
    have CD := Lib.hid (fun A B c k w h1 j1 => rDown_x (x + 1 / 2) A B c k w h1 j1 l2.1 l2.2)
    rw [hs] at CP
    rw [hr]
    unfold RNf at CP CD ⊢
    clear hr hq hs hx hy hhb l1 l2 hlen
    generalize x + 1 / 2 = y at *
    generalize ((y.floor : Int) : Rat) = z at *
    generalize rneg z = sz at *
    generalize (limbs (rn z)).length = lz at *
    generalize (limbs z.den).length = mz at *
    generalize (limbs (rn x)).length = lx at *
    generalize (limbs x.den).length = mx at *
    generalize (limbs 1).length = o1 at *
    have H1 := Lib.hid h1
    have J1 := Lib.hid j1
    clear h1 j1
    go_enter Tryd.func60, Tryd.ntmps60
    go_wp2_with (with_reducible refine G.any_mark _ ?_; (try generalize Array.size (World.heap (G.w _)) = bk); (try dsimp only [List.set_cons_zero, List.set_cons_succ]); (try clear g); intro g)
    refine (CO.out _).mono ?_
    rintro e w1 ⟨Ao, co, Fo, rfl, hso, hn⟩
    have hnno := fun k o hk => Nat.le_trans g.chg.size (hn.new k o hk)
    obtain ⟨g1, rfl⟩ := G.new_ex _ hn
    clear hn
    (try clear g)
    revert g1
    intro g
    go_wp2_with (with_reducible refine G.any_mark _ ?_; (try generalize Array.size (World.heap (G.w _)) = bk); (try dsimp only [List.set_cons_zero, List.set_cons_succ]); (try clear g); intro g)
    (try (refine cmark _ ?_; (try dsimp only [List.set_cons_zero, List.set_cons_succ]); (try clear g); intro g))
    refine (CP.out _ _ _ _ _ (G.sl g (by simp) H1.out) (G.sl g (by simp) J1.out) (G.sl g (by simp) hso) (G.lit1 g _ _ HN2.out.2 HN2.out.1 (by decide))).mono ?_
    rintro e w1 ⟨Ap, cp, Fp, Bp, dp, Hp, rfl, hsp, htp, hn, hm⟩
    have hnnp := fun k o hk => Nat.le_trans g.chg.size (hn.new k o hk)
    have hmmp := fun k o hk => Nat.le_trans g.chg.size (hm.new k o hk)
    obtain ⟨g1, rfl⟩ := G.new2_ex _ hn hm
    clear hn hm
    (try clear g)
    revert g1
    intro g
    go_wp2_with (with_reducible refine G.any_mark _ ?_; (try generalize Array.size (World.heap (G.w _)) = bk); (try dsimp only [List.set_cons_zero, List.set_cons_succ]); (try clear g); intro g)
    (try (refine cmark _ ?_; (try dsimp only [List.set_cons_zero, List.set_cons_succ]); (try clear g); intro g))
    refine (CD.out _ _ _ _ _ (G.sl g (by simp) hsp) (G.sl g (by simp) htp)).mono ?_
    rintro e w1 ⟨Aq, cq, Fq, Bq, dq, Hq, rfl, hsq, htq, hn, hm⟩
    have hnnq := fun k o hk => Nat.le_trans g.chg.size (hn.new k o hk)
    have hmmq := fun k o hk => Nat.le_trans g.chg.size (hm.new k o hk)
    obtain ⟨g1, rfl⟩ := G.new2_ex _ hn hm
    clear hn hm
    (try clear g)
    revert g1
    intro g
    go_wp2_with (with_reducible refine G.any_mark _ ?_; (try generalize Array.size (World.heap (G.w _)) = bk); (try dsimp only [List.set_cons_zero, List.set_cons_succ]); (try clear g); intro g)
    refine bodyPost_ret (v := .agg #[.bool sz, .slice Aq lz cq, .slice Bq mz dq]) (by simp [results, Tryd.results60, go_sem]) rfl ?_
    exact ⟨Aq, cq, Fq, Bq, dq, Hq, rfl, hsq, htq, G.pass _ (by simp) hnnq, G.pass _ (by simp) hmmq⟩
  · have hr : ((rndz x : Int) : Rat) = -(((-x + 1 / 2 : Rat).floor : Int) : Rat) := by
      unfold rndz
      rw [hs] at hq ⊢
      simp only [if_true] at hq ⊢
      rw [hq, Rat.intCast_neg]
    have hy := hx.neg.add hhb
    have hf := hy.floor
    have l1 := hlen hx (by decide)
    have l2 := hlen hx.neg (by decide)
    have l3 := hlen hy (by decide)
    have l4 := hlen hf (by decide)
    have CM := Lib.hid (fun w h1 j1 => rMinus_x x A B c k w h1 j1 (by omega) (by omega))
    have CP := Lib.hid (fun A1 B1 c1 k1 A2 B2 c2 k2 w h1 j1 h2 j2 => rPlus_half (-x) A1 B1 A2 B2 c1 k1 c2 k2 w h1 j1 h2 j2 l2.1 l2.2)
    have CD := Lib.hid (fun A B c k w h1 j1 => rDown_x (-x + 1 / 2) A B c k w h1 j1 l3.1 l3.2)
    have CN := Lib.hid (fun A B c k w h1 j1 => rMinus_x (((-x + 1 / 2 : Rat).floor : Int) : Rat) A B c k w h1 j1 (by omega) (by omega))
    rw [hs] at CM
    rw [hr]
    unfold RNf at CM CP CD CN ⊢
    clear hr hq hs hx hy hhb l1 l2 l3 l4 hlen hf
    generalize hf : (((-x + 1 / 2 : Rat).floor : Int) : Rat) = f at *
    generalize hy : -x + 1 / 2 = y at *
    generalize hm : -x = m at *
    generalize -f = z at *
    clear hf hy hm
    generalize rneg z = sz at *
    generalize (limbs (rn z)).length = lz at *
    generalize (limbs z.den).length = mz at *
    generalize rneg m = sm at *
    generalize (limbs (rn m)).length = lm at *
    generalize (limbs m.den).length = mm at *
    generalize rneg y = sy at *
    generalize (limbs (rn y)).length = ly at *
    generalize (limbs y.den).length = my at *
    generalize rneg f = sf at *
    generalize (limbs (rn f)).length = lf at *
    generalize (limbs f.den).length = mf at *
    generalize (limbs (rn x)).length = lx at *
    generalize (limbs x.den).length = mx at *
    generalize (limbs 1).length = o1 at *
    have H1 := Lib.hid h1
    have J1 := Lib.hid j1
    clear h1 j1
    go_enter Tryd.func60, Tryd.ntmps60
    go_wp2_with (with_reducible refine G.any_mark _ ?_; (try generalize Array.size (World.heap (G.w _)) = bk); (try dsimp only [List.set_cons_zero, List.set_cons_succ]); (try clear g); intro g)
    refine (CO.out _).mono ?_
    rintro e w1 ⟨Ao, co, Fo, rfl, hso, hn⟩
    have hnno := fun k o hk => Nat.le_trans g.chg.size (hn.new k o hk)
    obtain ⟨g1, rfl⟩ := G.new_ex _ hn
    clear hn
    (try clear g)
    revert g1
    intro g
    go_wp2_with (with_reducible refine G.any_mark _ ?_; (try generalize Array.size (World.heap (G.w _)) = bk); (try dsimp only [List.set_cons_zero, List.set_cons_succ]); (try clear g); intro g)
    ((try simp only [G.drew_eq, G.drewN_eq]); (refine G.any_mark _ ?_; (try clear g); intro g))
    go_region_held3 (G.heldN g [true, false, false, true]) (simp [G.heldN, HeldN, go_sem]) (first
      | (go_at_call 86; (with_reducible refine (CM.out _ ?_ ?_).mono ?_); (· exact G.sl _ (by simp) H1.out); (· exact G.sl _ (by simp) J1.out); rintro e w1 ⟨Am, cm, Fm, Bm, dm, Hm, rfl, hsm, htm, hnq, hmq⟩; have hnnm := fun k o hk => Nat.le_trans (G.chg _).size (hnq.new k o hk); have hmmm := fun k o hk => Nat.le_trans (G.chg _).size (hmq.new k o hk); obtain ⟨g1, rfl⟩ := G.new2_ex _ hnq hmq; clear hnq hmq; (try clear g); revert g1; intro g)
      | (go_at_call 87; (with_reducible refine (CP.out _ _ _ _ _ _ _ _ _ ?_ ?_ ?_ ?_).mono ?_); (· exact G.sl _ (by simp) hsm); (· exact G.sl _ (by simp) htm); (· exact G.sl _ (by simp) hso); (· exact G.lit1 _ _ _ HN2.out.2 HN2.out.1 (by decide)); rintro e w1 ⟨Ap, cp, Fp, Bp, dp, Hp, rfl, hsp, htp, hnq, hmq⟩; have hnnp := fun k o hk => Nat.le_trans (G.chg _).size (hnq.new k o hk); have hmmp := fun k o hk => Nat.le_trans (G.chg _).size (hmq.new k o hk); obtain ⟨g1, rfl⟩ := G.new2_ex _ hnq hmq; clear hnq hmq; (try clear g); revert g1; intro g)
      | (go_at_call 59; (with_reducible refine (CD.out _ _ _ _ _ ?_ ?_).mono ?_); (· exact G.sl _ (by simp) hsp); (· exact G.sl _ (by simp) htp); rintro e w1 ⟨Aq, cq, Fq, Bq, dq, Hq, rfl, hsq, htq, hnq, hmq⟩; have hnnq := fun k o hk => Nat.le_trans (G.chg _).size (hnq.new k o hk); have hmmq := fun k o hk => Nat.le_trans (G.chg _).size (hmq.new k o hk); obtain ⟨g1, rfl⟩ := G.new2_ex _ hnq hmq; clear hnq hmq; (try clear g); revert g1; intro g)
      | (go_at_call 86; (with_reducible refine (CN.out _ _ _ _ _ ?_ ?_).mono ?_); (· exact G.sl _ (by simp) hsq); (· exact G.sl _ (by simp) htq); rintro e w1 ⟨Ar, cr, Fr, Br, dr, Hr, rfl, hsr, htr, hnq, hmq⟩; have hnnr := fun k o hk => Nat.le_trans (G.chg _).size (hnq.new k o hk); have hmmr := fun k o hk => Nat.le_trans (G.chg _).size (hmq.new k o hk); obtain ⟨g1, rfl⟩ := G.new2_ex _ hnq hmq; clear hnq hmq; (try clear g); revert g1; intro g))
    all_goals (first | ((try simp only [G.drew_eq, G.drewN_eq]); (refine G.any_mark _ ?_; (try clear g); intro g)) | skip)
    all_goals go_wp2_with (with_reducible refine G.any_mark _ ?_; (try generalize Array.size (World.heap (G.w _)) = bk); (try dsimp only [List.set_cons_zero, List.set_cons_succ]); (try clear g); intro g)
    all_goals refine bodyPost_ret (v := .agg #[.bool sz, .slice Ar lz cr, .slice Br mz dr]) (by simp [results, Tryd.results60, go_sem]) rfl ?_
    all_goals exact ⟨Ar, cr, Fr, Br, dr, Hr, rfl, hsr, htr, G.pass _ (by simp) hnnr, G.pass _ (by simp) hmmr⟩
/-- parts that are valid are those of a number -/
theorem rchk_val {s : Bool} {l m : List Nat} (hl : Ok l) (hm : Ok m) (h : rchk s l m = 0) : ∃ x : Rat, s = rneg x ∧ l = limbs (rn x) ∧ m = limbs x.den ∧ Bd 8192 x := by
  unfold rchk at h
  by_cases h1 : chk l = 0
  · rw [if_neg (by simpa using h1)] at h
    by_cases h2 : chk m = 0
    · rw [if_neg (by simpa using h2)] at h
      by_cases h3 : val m = 0
      · rw [if_pos h3] at h; exact absurd h (by decide)
      · rw [if_neg h3] at h
        by_cases h4 : (s = true ∧ val l = 0) ∨ Nat.gcd (val l) (val m) ≠ 1
        · rw [if_pos h4] at h; exact absurd h (by decide)
        · have hg : Nat.gcd (val l) (val m) = 1 := Decidable.byContradiction fun h => h4 (.inr h)
          obtain ⟨p1, p2, p3⟩ := frac_parts (s := s) h3 hg (fun hs h0 => h4 (.inl ⟨hs, h0⟩))
          obtain ⟨e1, b1, _⟩ := chk_ok hl h1
          obtain ⟨e2, b2, _⟩ := chk_ok hm h2
          exact ⟨frac s (val l) (val m), p1.symm, by rw [p2]; exact e1, by rw [p3]; exact e2, by rw [p2]; exact b1, by rw [p3]; exact b2⟩
    · rw [if_pos h2] at h; exact absurd h h2
  · rw [if_pos h1] at h; exact absurd h h1
theorem rchk_val0 {x : Rat} (h : Bd 8192 x) : rchk (rneg x) (limbs (rn x)) (limbs x.den) = 0 := by
  unfold rchk
  rw [chk_limbs h.1, chk_limbs h.2, val_limbs, val_limbs, if_neg (by decide), if_neg (by decide), if_neg x.den_nz, if_neg]
  rintro (⟨h1, h2⟩ | h1)
  · exact rneg_ne h1 h2
  · exact h1 (rgcd x)
theorem rchk_err (s : Bool) (l m : List Nat) : rchk s l m = 0 ∨ rchk s l m = 3 ∨ rchk s l m = 4 ∨ rchk s l m = 6 := by
  have p1 := chk_pos l
  have p2 := chk_pos m
  unfold rchk
  split
  · omega
  · split
    · omega
    · split
      · simp
      · split <;> simp
set_option maxRecDepth 20000 in
set_option maxHeartbeats 4000000 in
theorem rFloor_x (x : Rat) (A B : Option Addr) (c k : Nat) (w : World) (hx : Bd 8192 x) (h1 : SlW w A c (limbs (rn x))) (j1 : SlW w B k (limbs x.den)) :
    Calls Tryd.prog 26 #[.agg #[.bool (rneg x), .slice A (limbs (rn x)).length c, .slice B (limbs x.den).length k]] w (RPE (outX ((x.floor : Rat))) w) := by
  refine calls_b fun g => ?_
  have CK := Lib.hid (fun w a b => rrcheck (rneg x) A B c k (limbs (rn x)) (limbs x.den) w a b)
  rw [rchk_val0 hx] at CK
  have CD := Lib.hid (fun w a b => rDown_x x A B c k w a b (limbs_bd hx.1 (by decide)) (limbs_bd hx.2 (by decide)))
  unfold RNf at CD
  unfold outX outP
  generalize ((x.floor : Rat)) = z at *
  have CF := Lib.hid (fun A B c k hn hd w => rFits_ok (rneg z) A B c k (limbs (rn z)).length (limbs z.den).length hn hd w)
  have CV := Lib.hid (fun A B c k hn w => rFits_over (rneg z) A B c k (limbs (rn z)).length (limbs z.den).length hn w)
  have H1 := Lib.hid h1
  have J1 := Lib.hid j1
  clear h1 j1 hx
  generalize (limbs (rn x)).length = lx at *
  generalize (limbs x.den).length = mx at *
  generalize rneg x = sx at *
  by_cases hz : rn z < 2 ^ 8192 ∧ z.den < 2 ^ 8192
  · rw [if_pos hz]
    have hz1 := limbs_256.1 hz.1
    have hz2 := limbs_256.1 hz.2
    have CF := Lib.hid (fun A B c k w => CF.out A B c k hz1 hz2 w)
    clear hz CV hz1 hz2
    unfold RPE
    dsimp only
    generalize rneg z = sz at *
    generalize (limbs (rn z)).length = lz at *
    generalize (limbs z.den).length = mz at *
    go_enter Tryd.func26, Tryd.ntmps26
    go_wp2_with (with_reducible refine G.any_mark _ ?_; (try generalize Array.size (World.heap (G.w _)) = bk); (try dsimp only [List.set_cons_zero, List.set_cons_succ]); (try clear g); intro g)
    refine (CK.out _ (G.sl g (by simp) H1.out) (G.sl g (by simp) J1.out)).mono ?_
    rintro e w1 ⟨rfl, hb⟩
    obtain ⟨g1, rfl⟩ := G.call_ex _ hb
    clear hb
    (try clear g)
    revert g1
    intro g
    go_wp2_with (with_reducible refine G.any_mark _ ?_; (try generalize Array.size (World.heap (G.w _)) = bk); (try dsimp only [List.set_cons_zero, List.set_cons_succ]); (try clear g); intro g)
    refine (CD.out _ (G.sl g (by simp) H1.out) (G.sl g (by simp) J1.out)).mono ?_
    rintro e w1 ⟨Aq, cq, Fq, Bq, dq, Hq, rfl, hsq, htq, hn, hm⟩
    have hnnq := fun k o hk => Nat.le_trans g.chg.size (hn.new k o hk)
    have hmmq := fun k o hk => Nat.le_trans g.chg.size (hm.new k o hk)
    obtain ⟨g1, rfl⟩ := G.new2_ex _ hn hm
    clear hn hm
    (try clear g)
    revert g1
    intro g
    go_wp2_with (with_reducible refine G.any_mark _ ?_; (try generalize Array.size (World.heap (G.w _)) = bk); (try dsimp only [List.set_cons_zero, List.set_cons_succ]); (try clear g); intro g)
    refine (CF.out _ _ _ _ _).mono ?_
    rintro e w1 ⟨rfl, hb⟩
    obtain ⟨g1, rfl⟩ := G.call_ex _ hb
    clear hb
    (try clear g)
    revert g1
    intro g
    go_wp2_with (with_reducible refine G.any_mark _ ?_; (try generalize Array.size (World.heap (G.w _)) = bk); (try dsimp only [List.set_cons_zero, List.set_cons_succ]); (try clear g); intro g)
    refine bodyPost_ret (v := .tuple #[.agg #[.bool sz, .slice Aq lz cq, .slice Bq mz dq], .int .i64 0]) (by simp [results, Tryd.results26, go_sem]) rfl ?_
    exact ⟨Aq, cq, Fq, Bq, dq, Hq, rfl, hsq, htq, G.pass _ (by simp) hnnq, G.pass _ (by simp) hmmq⟩
  · rw [if_neg hz]
    have hz1 : ¬ ((limbs (rn z)).length ≤ 256 ∧ (limbs z.den).length ≤ 256) := fun h => hz ⟨limbs_256.2 h.1, limbs_256.2 h.2⟩
    have CV := Lib.hid (fun A B c k w => CV.out A B c k hz1 w)
    clear hz CF hz1
    generalize rneg z = sz at *
    generalize (limbs (rn z)).length = lz at *
    generalize (limbs z.den).length = mz at *
    go_enter Tryd.func26, Tryd.ntmps26
    go_wp2_with (with_reducible refine G.any_mark _ ?_; (try generalize Array.size (World.heap (G.w _)) = bk); (try dsimp only [List.set_cons_zero, List.set_cons_succ]); (try clear g); intro g)
    refine (CK.out _ (G.sl g (by simp) H1.out) (G.sl g (by simp) J1.out)).mono ?_
    rintro e w1 ⟨rfl, hb⟩
    obtain ⟨g1, rfl⟩ := G.call_ex _ hb
    clear hb
    (try clear g)
    revert g1
    intro g
    go_wp2_with (with_reducible refine G.any_mark _ ?_; (try generalize Array.size (World.heap (G.w _)) = bk); (try dsimp only [List.set_cons_zero, List.set_cons_succ]); (try clear g); intro g)
    refine (CD.out _ (G.sl g (by simp) H1.out) (G.sl g (by simp) J1.out)).mono ?_
    rintro e w1 ⟨Aq, cq, Fq, Bq, dq, Hq, rfl, hsq, htq, hn, hm⟩
    have hnnq := fun k o hk => Nat.le_trans g.chg.size (hn.new k o hk)
    have hmmq := fun k o hk => Nat.le_trans g.chg.size (hm.new k o hk)
    obtain ⟨g1, rfl⟩ := G.new2_ex _ hn hm
    clear hn hm
    (try clear g)
    revert g1
    intro g
    go_wp2_with (with_reducible refine G.any_mark _ ?_; (try generalize Array.size (World.heap (G.w _)) = bk); (try dsimp only [List.set_cons_zero, List.set_cons_succ]); (try clear g); intro g)
    refine (CV.out _ _ _ _ _).mono ?_
    rintro e w1 ⟨rfl, hb⟩
    obtain ⟨g1, rfl⟩ := G.call_ex _ hb
    clear hb
    (try clear g)
    revert g1
    intro g
    go_wp2_with (with_reducible refine G.any_mark _ ?_; (try generalize Array.size (World.heap (G.w _)) = bk); (try dsimp only [List.set_cons_zero, List.set_cons_succ]); (try clear g); intro g)
    refine bodyPost_ret (v := .tuple #[.agg #[.bool false, .slice none 0 0, .slice none 0 0], .int .i64 5]) (by simp [results, Tryd.results26, go_sem]) rfl ?_
    exact rpe_err _ _
set_option maxRecDepth 20000 in
set_option maxHeartbeats 4000000 in
theorem rRound_x (x : Rat) (A B : Option Addr) (c k : Nat) (w : World) (hx : Bd 8192 x) (h1 : SlW w A c (limbs (rn x))) (j1 : SlW w B k (limbs x.den)) :
    Calls Tryd.prog 27 #[.agg #[.bool (rneg x), .slice A (limbs (rn x)).length c, .slice B (limbs x.den).length k]] w (RPE (outX (((rndz x : Int) : Rat))) w) := by
  refine calls_b fun g => ?_
  have CK := Lib.hid (fun w a b => rrcheck (rneg x) A B c k (limbs (rn x)) (limbs x.den) w a b)
  rw [rchk_val0 hx] at CK
  have CD := Lib.hid (fun w a b => rNear_x x A B c k w a b (hx.mono (by decide)))
  unfold RNf at CD
  unfold outX outP
  generalize (((rndz x : Int) : Rat)) = z at *
  have CF := Lib.hid (fun A B c k hn hd w => rFits_ok (rneg z) A B c k (limbs (rn z)).length (limbs z.den).length hn hd w)
  have CV := Lib.hid (fun A B c k hn w => rFits_over (rneg z) A B c k (limbs (rn z)).length (limbs z.den).length hn w)
  have H1 := Lib.hid h1
  have J1 := Lib.hid j1
  clear h1 j1 hx
  generalize (limbs (rn x)).length = lx at *
  generalize (limbs x.den).length = mx at *
  generalize rneg x = sx at *
  by_cases hz : rn z < 2 ^ 8192 ∧ z.den < 2 ^ 8192
  · rw [if_pos hz]
    have hz1 := limbs_256.1 hz.1
    have hz2 := limbs_256.1 hz.2
    have CF := Lib.hid (fun A B c k w => CF.out A B c k hz1 hz2 w)
    clear hz CV hz1 hz2
    unfold RPE
    dsimp only
    generalize rneg z = sz at *
    generalize (limbs (rn z)).length = lz at *
    generalize (limbs z.den).length = mz at *
    go_enter Tryd.func27, Tryd.ntmps27
    go_wp2_with (with_reducible refine G.any_mark _ ?_; (try generalize Array.size (World.heap (G.w _)) = bk); (try dsimp only [List.set_cons_zero, List.set_cons_succ]); (try clear g); intro g)
    refine (CK.out _ (G.sl g (by simp) H1.out) (G.sl g (by simp) J1.out)).mono ?_
    rintro e w1 ⟨rfl, hb⟩
    obtain ⟨g1, rfl⟩ := G.call_ex _ hb
    clear hb
    (try clear g)
    revert g1
    intro g
    go_wp2_with (with_reducible refine G.any_mark _ ?_; (try generalize Array.size (World.heap (G.w _)) = bk); (try dsimp only [List.set_cons_zero, List.set_cons_succ]); (try clear g); intro g)
    refine (CD.out _ (G.sl g (by simp) H1.out) (G.sl g (by simp) J1.out)).mono ?_
    rintro e w1 ⟨Aq, cq, Fq, Bq, dq, Hq, rfl, hsq, htq, hn, hm⟩
    have hnnq := fun k o hk => Nat.le_trans g.chg.size (hn.new k o hk)
    have hmmq := fun k o hk => Nat.le_trans g.chg.size (hm.new k o hk)
    obtain ⟨g1, rfl⟩ := G.new2_ex _ hn hm
    clear hn hm
    (try clear g)
    revert g1
    intro g
    go_wp2_with (with_reducible refine G.any_mark _ ?_; (try generalize Array.size (World.heap (G.w _)) = bk); (try dsimp only [List.set_cons_zero, List.set_cons_succ]); (try clear g); intro g)
    refine (CF.out _ _ _ _ _).mono ?_
    rintro e w1 ⟨rfl, hb⟩
    obtain ⟨g1, rfl⟩ := G.call_ex _ hb
    clear hb
    (try clear g)
    revert g1
    intro g
    go_wp2_with (with_reducible refine G.any_mark _ ?_; (try generalize Array.size (World.heap (G.w _)) = bk); (try dsimp only [List.set_cons_zero, List.set_cons_succ]); (try clear g); intro g)
    refine bodyPost_ret (v := .tuple #[.agg #[.bool sz, .slice Aq lz cq, .slice Bq mz dq], .int .i64 0]) (by simp [results, Tryd.results27, go_sem]) rfl ?_
    exact ⟨Aq, cq, Fq, Bq, dq, Hq, rfl, hsq, htq, G.pass _ (by simp) hnnq, G.pass _ (by simp) hmmq⟩
  · rw [if_neg hz]
    have hz1 : ¬ ((limbs (rn z)).length ≤ 256 ∧ (limbs z.den).length ≤ 256) := fun h => hz ⟨limbs_256.2 h.1, limbs_256.2 h.2⟩
    have CV := Lib.hid (fun A B c k w => CV.out A B c k hz1 w)
    clear hz CF hz1
    generalize rneg z = sz at *
    generalize (limbs (rn z)).length = lz at *
    generalize (limbs z.den).length = mz at *
    go_enter Tryd.func27, Tryd.ntmps27
    go_wp2_with (with_reducible refine G.any_mark _ ?_; (try generalize Array.size (World.heap (G.w _)) = bk); (try dsimp only [List.set_cons_zero, List.set_cons_succ]); (try clear g); intro g)
    refine (CK.out _ (G.sl g (by simp) H1.out) (G.sl g (by simp) J1.out)).mono ?_
    rintro e w1 ⟨rfl, hb⟩
    obtain ⟨g1, rfl⟩ := G.call_ex _ hb
    clear hb
    (try clear g)
    revert g1
    intro g
    go_wp2_with (with_reducible refine G.any_mark _ ?_; (try generalize Array.size (World.heap (G.w _)) = bk); (try dsimp only [List.set_cons_zero, List.set_cons_succ]); (try clear g); intro g)
    refine (CD.out _ (G.sl g (by simp) H1.out) (G.sl g (by simp) J1.out)).mono ?_
    rintro e w1 ⟨Aq, cq, Fq, Bq, dq, Hq, rfl, hsq, htq, hn, hm⟩
    have hnnq := fun k o hk => Nat.le_trans g.chg.size (hn.new k o hk)
    have hmmq := fun k o hk => Nat.le_trans g.chg.size (hm.new k o hk)
    obtain ⟨g1, rfl⟩ := G.new2_ex _ hn hm
    clear hn hm
    (try clear g)
    revert g1
    intro g
    go_wp2_with (with_reducible refine G.any_mark _ ?_; (try generalize Array.size (World.heap (G.w _)) = bk); (try dsimp only [List.set_cons_zero, List.set_cons_succ]); (try clear g); intro g)
    refine (CV.out _ _ _ _ _).mono ?_
    rintro e w1 ⟨rfl, hb⟩
    obtain ⟨g1, rfl⟩ := G.call_ex _ hb
    clear hb
    (try clear g)
    revert g1
    intro g
    go_wp2_with (with_reducible refine G.any_mark _ ?_; (try generalize Array.size (World.heap (G.w _)) = bk); (try dsimp only [List.set_cons_zero, List.set_cons_succ]); (try clear g); intro g)
    refine bodyPost_ret (v := .tuple #[.agg #[.bool false, .slice none 0 0, .slice none 0 0], .int .i64 5]) (by simp [results, Tryd.results27, go_sem]) rfl ?_
    exact rpe_err _ _
set_option maxRecDepth 20000 in
theorem rFloor_e (s : Bool) (A B : Option Addr) (c k : Nat) (l m : List Nat) (w : World) (h : rchk s l m ≠ 0) (h1 : SlW w A c l) (j1 : SlW w B k m) :
    Calls Tryd.prog 26 #[.agg #[.bool s, .slice A l.length c, .slice B m.length k]] w (RPE (false, 0, 0, rchk s l m) w) := by
  refine calls_b fun g => ?_
  have CK := Lib.hid (fun w a b => rrcheck s A B c k l m w a b)
  have hp := rchk_err s l m
  generalize rchk s l m = x at *
  generalize l.length = ln at *
  generalize m.length = ld at *
  rcases hp with hp | hp | hp | hp
  · exact absurd hp h
  all_goals
    subst hp
    clear h
    go_enter Tryd.func26, Tryd.ntmps26
    go_wp2_with (with_reducible refine G.any_mark _ ?_; (try generalize Array.size (World.heap (G.w _)) = bk); (try dsimp only [List.set_cons_zero, List.set_cons_succ]); (try clear g); intro g)
    refine (CK.out _ (G.sl g (by simp) h1) (G.sl g (by simp) j1)).mono ?_
    rintro e w1 ⟨rfl, hb⟩
    obtain ⟨g1, rfl⟩ := G.call_ex _ hb
    clear hb
    (try clear g)
    revert g1
    intro g
    go_wp2_with (with_reducible refine G.any_mark _ ?_; (try generalize Array.size (World.heap (G.w _)) = bk); (try dsimp only [List.set_cons_zero, List.set_cons_succ]); (try clear g); intro g)
    refine bodyPost_ret (v := .tuple #[.agg #[.bool false, .slice none 0 0, .slice none 0 0], _]) (by simp [results, Tryd.results26, go_sem]; rfl) rfl ?_
    exact rpe_err _ _
set_option maxRecDepth 20000 in
theorem rRound_e (s : Bool) (A B : Option Addr) (c k : Nat) (l m : List Nat) (w : World) (h : rchk s l m ≠ 0) (h1 : SlW w A c l) (j1 : SlW w B k m) :
    Calls Tryd.prog 27 #[.agg #[.bool s, .slice A l.length c, .slice B m.length k]] w (RPE (false, 0, 0, rchk s l m) w) := by
  refine calls_b fun g => ?_
  have CK := Lib.hid (fun w a b => rrcheck s A B c k l m w a b)
  have hp := rchk_err s l m
  generalize rchk s l m = x at *
  generalize l.length = ln at *
  generalize m.length = ld at *
  rcases hp with hp | hp | hp | hp
  · exact absurd hp h
  all_goals
    subst hp
    clear h
    go_enter Tryd.func27, Tryd.ntmps27
    go_wp2_with (with_reducible refine G.any_mark _ ?_; (try generalize Array.size (World.heap (G.w _)) = bk); (try dsimp only [List.set_cons_zero, List.set_cons_succ]); (try clear g); intro g)
    refine (CK.out _ (G.sl g (by simp) h1) (G.sl g (by simp) j1)).mono ?_
    rintro e w1 ⟨rfl, hb⟩
    obtain ⟨g1, rfl⟩ := G.call_ex _ hb
    clear hb
    (try clear g)
    revert g1
    intro g
    go_wp2_with (with_reducible refine G.any_mark _ ?_; (try generalize Array.size (World.heap (G.w _)) = bk); (try dsimp only [List.set_cons_zero, List.set_cons_succ]); (try clear g); intro g)
    refine bodyPost_ret (v := .tuple #[.agg #[.bool false, .slice none 0 0, .slice none 0 0], _]) (by simp [results, Tryd.results27, go_sem]; rfl) rfl ?_
    exact rpe_err _ _
theorem rFloor_any (s1 : Bool) (A1 B1 : Option Addr) (c1 k1 : Nat) (l1 m1 : List Nat) (w : World) (h1 : SlW w A1 c1 l1) (j1 : SlW w B1 k1 m1) :
    Calls Tryd.prog 26 #[.agg #[.bool s1, .slice A1 l1.length c1, .slice B1 m1.length k1]] w (RPE (out1 (rchk s1 l1 m1) (outP (s1 && decide (flq s1 (val l1) (val m1) ≠ 0)) (flq s1 (val l1) (val m1)) 1)) w) := by
  unfold out1
  by_cases h : rchk s1 l1 m1 = 0
  · rw [if_neg (by simpa using h)]
    obtain ⟨x, rfl, rfl, rfl, hx⟩ := rchk_val h1.ok j1.ok h
    have := rFloor_x x A1 B1 c1 k1 w hx h1 j1
    obtain ⟨a, b, c⟩ := floor_int x
    unfold outX at this
    rw [a, b, c] at this
    rw [val_limbs, val_limbs]
    exact this
  · rw [if_pos h]
    exact rFloor_e s1 A1 B1 c1 k1 l1 m1 w h h1 j1
theorem rRound_any (s1 : Bool) (A1 B1 : Option Addr) (c1 k1 : Nat) (l1 m1 : List Nat) (w : World) (h1 : SlW w A1 c1 l1) (j1 : SlW w B1 k1 m1) :
    Calls Tryd.prog 27 #[.agg #[.bool s1, .slice A1 l1.length c1, .slice B1 m1.length k1]] w (RPE (out1 (rchk s1 l1 m1) (outP (s1 && decide (rdq (val l1) (val m1) ≠ 0)) (rdq (val l1) (val m1)) 1)) w) := by
  unfold out1
  by_cases h : rchk s1 l1 m1 = 0
  · rw [if_neg (by simpa using h)]
    obtain ⟨x, rfl, rfl, rfl, hx⟩ := rchk_val h1.ok j1.ok h
    have := rRound_x x A1 B1 c1 k1 w hx h1 j1
    obtain ⟨a, b, c⟩ := rnd_parts x
    unfold outX at this
    rw [a, b, c] at this
    rw [val_limbs, val_limbs]
    exact this
  · rw [if_pos h]
    exact rRound_e s1 A1 B1 c1 k1 l1 m1 w h h1 j1
end Go.Proofs.YtjdnpkicdmapnaaDoor
namespace Go.Proofs.YtjdnpkicdmapnaaDoor
open Go.RowKit GW NL
theorem limbs_two63 : limbs 9223372036854775808 = [0, 2147483648] := lim2 (x := 0) (y := 2147483648) (by decide) (by decide) (by decide)
theorem limbs_inj {a b : Nat} : limbs a = limbs b ↔ a = b := ⟨fun h => by have := congrArg val h; rwa [val_limbs, val_limbs] at this, fun h => by rw [h]⟩
set_option maxRecDepth 20000 in
set_option maxHeartbeats 4000000 in
theorem rInt_x (x : Rat) (A B : Option Addr) (c k : Nat) (w : World) (hx : Bd 8192 x) (h1 : SlW w A c (limbs (rn x))) (j1 : SlW w B k (limbs x.den)) :
    Calls Tryd.prog 29 #[.agg #[.bool (rneg x), .slice A (limbs (rn x)).length c, .slice B (limbs x.den).length k]] w fun e w' => e = .returned (.tuple #[.int .i64 (intX (rneg x) (limbs (rn x)) (limbs x.den)).1, .int .i64 (intX (rneg x) (limbs (rn x)) (limbs x.den)).2]) ∧ Below w.heap.size w w' := by
  refine calls_b fun g => ?_
  have CK := Lib.hid (fun w a b => rrcheck (rneg x) A B c k (limbs (rn x)) (limbs x.den) w a b)
  have hI : intX (rneg x) (limbs (rn x)) (limbs x.den) = if x.den ≠ 1 then (0, 18) else if 9223372036854775808 < rn x ∨ (rn x = 9223372036854775808 ∧ rneg x = false) then (0, 5) else ((if rneg x = true then -(rn x : Int) else (rn x : Int)), 0) := by
    unfold intX
    rw [rchk_val0 hx, if_neg (by decide), val_limbs, val_limbs]
  rw [hI]
  clear hI
  rw [rchk_val0 hx] at CK
  have CU := Lib.hid (fun w h => isone_any B k x.den w h)
  have CI := Lib.hid (fun w h => rInt_any A c (limbs (rn x)) w h)
  rw [chk_limbs hx.1, val_limbs] at CI
  have CS := Lib.hid (fun A2 c2 w h1 h2 => same_gen A A2 c c2 (limbs (rn x)) (limbs 9223372036854775808) w h1 h2)
  have HN2 : Hid ((limbs 9223372036854775808).length = 2 ∧ [Value.int .u32 0, Value.int .u32 2147483648] = u32s (limbs 9223372036854775808)) := Lib.hid ⟨by rw [limbs_two63]; rfl, by rw [limbs_two63]; rfl⟩
  rw [HN2.out.1] at CS
  have H1 := Lib.hid h1
  have J1 := Lib.hid j1
  clear h1 j1 hx
  have hnb : 63 < nb (rn x) ↔ 9223372036854775808 ≤ rn x := by rw [← Nat.not_le, nb_le]; show ¬ (rn x < 9223372036854775808) ↔ _; omega
  have hsm : decide (limbs (rn x) = limbs 9223372036854775808) = decide (rn x = 9223372036854775808) := decide_eq_decide.2 limbs_inj
  rw [hsm] at CS
  clear hsm
  generalize rneg x = s at *
  generalize rn x = n at *
  generalize x.den = d at *
  generalize (limbs n).length = ln at *
  generalize (limbs d).length = ld at *
  by_cases hd : d = 1
  · rw [if_neg (by simpa using hd)]
    rw [decide_eq_true hd] at CU
    clear hd
    by_cases hn : n < 9223372036854775808
    · have hO : outI 0 n = ((n : Int), 0) := by unfold outI; rw [if_neg (by decide), if_neg (by rw [hnb]; omega)]
      rw [hO] at CI
      rw [if_neg (by omega)]
      have hw : IntKind.i64.wrap (-(n : Int)) = -(n : Int) := by rw [IntKind.wrap_i64]; omega
      clear hO hnb CS
      cases s
      · rw [if_neg (by decide)]
        go_enter Tryd.func29, Tryd.ntmps29
        go_wp2_with (with_reducible refine G.any_mark _ ?_; (try generalize Array.size (World.heap (G.w _)) = bk); (try dsimp only [List.set_cons_zero, List.set_cons_succ]); (try clear g); intro g)
        refine (CK.out _ (G.sl g (by simp) H1.out) (G.sl g (by simp) J1.out)).mono ?_
        rintro e w1 ⟨rfl, hb⟩
        obtain ⟨g1, rfl⟩ := G.call_ex _ hb
        clear hb
        (try clear g)
        revert g1
        intro g
        go_wp2_with (with_reducible refine G.any_mark _ ?_; (try generalize Array.size (World.heap (G.w _)) = bk); (try dsimp only [List.set_cons_zero, List.set_cons_succ]); (try clear g); intro g)
        refine (CU.out _ (G.sl g (by simp) J1.out)).mono ?_
        rintro e w1 ⟨rfl, rfl⟩
        go_wp2_with (with_reducible refine G.any_mark _ ?_; (try generalize Array.size (World.heap (G.w _)) = bk); (try dsimp only [List.set_cons_zero, List.set_cons_succ]); (try clear g); intro g)
        refine (CI.out _ (G.sl g (by simp) H1.out)).mono ?_
        rintro e w1 ⟨rfl, hb⟩
        obtain ⟨g1, rfl⟩ := G.call_ex _ hb
        clear hb
        (try clear g)
        revert g1
        intro g
        go_wp2_with (with_reducible refine G.any_mark _ ?_; (try generalize Array.size (World.heap (G.w _)) = bk); (try dsimp only [List.set_cons_zero, List.set_cons_succ]); (try clear g); intro g)
        go_ret2
        exact ⟨rfl, G.below _⟩
      · rw [if_pos rfl]
        go_enter Tryd.func29, Tryd.ntmps29
        go_wp2_with (with_reducible refine G.any_mark _ ?_; (try generalize Array.size (World.heap (G.w _)) = bk); (try dsimp only [List.set_cons_zero, List.set_cons_succ]); (try clear g); intro g)
        refine (CK.out _ (G.sl g (by simp) H1.out) (G.sl g (by simp) J1.out)).mono ?_
        rintro e w1 ⟨rfl, hb⟩
        obtain ⟨g1, rfl⟩ := G.call_ex _ hb
        clear hb
        (try clear g)
        revert g1
        intro g
        go_wp2_with (with_reducible refine G.any_mark _ ?_; (try generalize Array.size (World.heap (G.w _)) = bk); (try dsimp only [List.set_cons_zero, List.set_cons_succ]); (try clear g); intro g)
        refine (CU.out _ (G.sl g (by simp) J1.out)).mono ?_
        rintro e w1 ⟨rfl, rfl⟩
        go_wp2_with (with_reducible refine G.any_mark _ ?_; (try generalize Array.size (World.heap (G.w _)) = bk); (try dsimp only [List.set_cons_zero, List.set_cons_succ]); (try clear g); intro g)
        refine (CI.out _ (G.sl g (by simp) H1.out)).mono ?_
        rintro e w1 ⟨rfl, hb⟩
        obtain ⟨g1, rfl⟩ := G.call_ex _ hb
        clear hb
        (try clear g)
        revert g1
        intro g
        go_wp2_with (with_reducible refine G.any_mark _ ?_; (try generalize Array.size (World.heap (G.w _)) = bk); (try dsimp only [List.set_cons_zero, List.set_cons_succ]); (try clear g); intro g)
        go_ret2
        exact ⟨rfl, G.below _⟩
    · have hO : outI 0 n = (0, 5) := by unfold outI; rw [if_neg (by decide), if_pos (hnb.2 (by omega))]
      rw [hO] at CI
      cases s
      · rw [if_pos (by rcases Nat.lt_or_ge 9223372036854775808 n with h | h; exact .inl h; exact .inr ⟨by omega, rfl⟩)]
        clear hO hnb CS hn
        go_enter Tryd.func29, Tryd.ntmps29
        go_wp2_with (with_reducible refine G.any_mark _ ?_; (try generalize Array.size (World.heap (G.w _)) = bk); (try dsimp only [List.set_cons_zero, List.set_cons_succ]); (try clear g); intro g)
        refine (CK.out _ (G.sl g (by simp) H1.out) (G.sl g (by simp) J1.out)).mono ?_
        rintro e w1 ⟨rfl, hb⟩
        obtain ⟨g1, rfl⟩ := G.call_ex _ hb
        clear hb
        (try clear g)
        revert g1
        intro g
        go_wp2_with (with_reducible refine G.any_mark _ ?_; (try generalize Array.size (World.heap (G.w _)) = bk); (try dsimp only [List.set_cons_zero, List.set_cons_succ]); (try clear g); intro g)
        refine (CU.out _ (G.sl g (by simp) J1.out)).mono ?_
        rintro e w1 ⟨rfl, rfl⟩
        go_wp2_with (with_reducible refine G.any_mark _ ?_; (try generalize Array.size (World.heap (G.w _)) = bk); (try dsimp only [List.set_cons_zero, List.set_cons_succ]); (try clear g); intro g)
        refine (CI.out _ (G.sl g (by simp) H1.out)).mono ?_
        rintro e w1 ⟨rfl, hb⟩
        obtain ⟨g1, rfl⟩ := G.call_ex _ hb
        clear hb
        (try clear g)
        revert g1
        intro g
        go_wp2_with (with_reducible refine G.any_mark _ ?_; (try generalize Array.size (World.heap (G.w _)) = bk); (try dsimp only [List.set_cons_zero, List.set_cons_succ]); (try clear g); intro g)
        go_ret2
        exact ⟨rfl, G.below _⟩
      · have hcs : (n = 9223372036854775808 ∧ (if 9223372036854775808 < n ∨ (n = 9223372036854775808 ∧ true = false) then ((0 : Int), (5 : Int)) else ((if true = true then -(n : Int) else (n : Int)), 0)) = (-9223372036854775808, 0)) ∨ (n ≠ 9223372036854775808 ∧ (if 9223372036854775808 < n ∨ (n = 9223372036854775808 ∧ true = false) then ((0 : Int), (5 : Int)) else ((if true = true then -(n : Int) else (n : Int)), 0)) = (0, 5)) := by
          by_cases h : n = 9223372036854775808
          · left; refine ⟨h, ?_⟩; subst h; rfl
          · right; refine ⟨h, ?_⟩; rw [if_pos (.inl (by omega))]
        rcases hcs with ⟨h, e⟩ | ⟨h, e⟩
        all_goals
          rw [e]
          (first | rw [decide_eq_true h] at CS | rw [decide_eq_false h] at CS)
          clear e h hO hnb hn
          go_enter Tryd.func29, Tryd.ntmps29
          go_wp2_with (with_reducible refine G.any_mark _ ?_; (try generalize Array.size (World.heap (G.w _)) = bk); (try dsimp only [List.set_cons_zero, List.set_cons_succ]); (try clear g); intro g)
          refine (CK.out _ (G.sl g (by simp) H1.out) (G.sl g (by simp) J1.out)).mono ?_
          rintro e w1 ⟨rfl, hb⟩
          obtain ⟨g1, rfl⟩ := G.call_ex _ hb
          clear hb
          (try clear g)
          revert g1
          intro g
          go_wp2_with (with_reducible refine G.any_mark _ ?_; (try generalize Array.size (World.heap (G.w _)) = bk); (try dsimp only [List.set_cons_zero, List.set_cons_succ]); (try clear g); intro g)
          refine (CU.out _ (G.sl g (by simp) J1.out)).mono ?_
          rintro e w1 ⟨rfl, rfl⟩
          go_wp2_with (with_reducible refine G.any_mark _ ?_; (try generalize Array.size (World.heap (G.w _)) = bk); (try dsimp only [List.set_cons_zero, List.set_cons_succ]); (try clear g); intro g)
          refine (CI.out _ (G.sl g (by simp) H1.out)).mono ?_
          rintro e w1 ⟨rfl, hb⟩
          obtain ⟨g1, rfl⟩ := G.call_ex _ hb
          clear hb
          (try clear g)
          revert g1
          intro g
          go_wp2_with (with_reducible refine G.any_mark _ ?_; (try generalize Array.size (World.heap (G.w _)) = bk); (try dsimp only [List.set_cons_zero, List.set_cons_succ]); (try clear g); intro g)
          (try (refine cmark _ ?_; (try dsimp only [List.set_cons_zero, List.set_cons_succ]); (try clear g); intro g))
          refine (CS.out _ _ _ (G.sl g (by simp) H1.out) (G.lit0 g _ _ HN2.out.2 HN2.out.1 (by decide))).mono ?_
          rintro e w1 ⟨rfl, hb⟩
          obtain ⟨g1, rfl⟩ := G.call_ex _ hb
          clear hb
          (try clear g)
          revert g1
          intro g
          go_wp2_with (with_reducible refine G.any_mark _ ?_; (try generalize Array.size (World.heap (G.w _)) = bk); (try dsimp only [List.set_cons_zero, List.set_cons_succ]); (try clear g); intro g)
          go_ret2
          exact ⟨rfl, G.below _⟩
  · rw [if_pos hd]
    rw [decide_eq_false hd] at CU
    clear hd
    go_enter Tryd.func29, Tryd.ntmps29
    go_wp2_with (with_reducible refine G.any_mark _ ?_; (try generalize Array.size (World.heap (G.w _)) = bk); (try dsimp only [List.set_cons_zero, List.set_cons_succ]); (try clear g); intro g)
    refine (CK.out _ (G.sl g (by simp) H1.out) (G.sl g (by simp) J1.out)).mono ?_
    rintro e w1 ⟨rfl, hb⟩
    obtain ⟨g1, rfl⟩ := G.call_ex _ hb
    clear hb
    (try clear g)
    revert g1
    intro g
    go_wp2_with (with_reducible refine G.any_mark _ ?_; (try generalize Array.size (World.heap (G.w _)) = bk); (try dsimp only [List.set_cons_zero, List.set_cons_succ]); (try clear g); intro g)
    refine (CU.out _ (G.sl g (by simp) J1.out)).mono ?_
    rintro e w1 ⟨rfl, rfl⟩
    go_wp2_with (with_reducible refine G.any_mark _ ?_; (try generalize Array.size (World.heap (G.w _)) = bk); (try dsimp only [List.set_cons_zero, List.set_cons_succ]); (try clear g); intro g)
    go_ret2
    exact ⟨rfl, G.below _⟩
end Go.Proofs.YtjdnpkicdmapnaaDoor
