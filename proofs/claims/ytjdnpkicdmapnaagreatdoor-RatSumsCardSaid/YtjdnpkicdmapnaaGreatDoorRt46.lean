/- Plain facts and contracts of functions of the program, out of walks. Their conditions stand ahead of each. -/
import Derived.Test.YtjdnpkicdmapnaaGreatDoorRt28
import Derived.Test.YtjdnpkicdmapnaaGreatDoorRt44
import Derived.Test.YtjdnpkicdmapnaaGreatDoorRt45
import Derived.Below
import Derived.BigQuiet
import Derived.Deep.DeepCutAuto
import Derived.Deep.Draws
import Derived.Deep.LoopGhost
import Derived.Deep.QuietTactic
import Derived.Deep.RegionHeld3
import Derived.Deep.RegionLaw
import Derived.Defers
import Derived.Laws.BytesString
import Derived.Laws.Cells
import Derived.Laws.Concat
import Derived.Laws.CopyOwn
import Derived.Laws.CopyRow
import Derived.Laws.NewBlocks
import Derived.Laws.OwnMore
import Derived.Laws.Pointers
import Derived.Laws.Rows
import Derived.Lib.BitFns
import Derived.Lib.Hide
import Derived.Lib.ItoaNum
import Derived.Lib.TrailingZeros
import Derived.LoopIn
import Derived.LoopNIn
import Derived.Maps.AppendAt
import Derived.OrdersIn
import Derived.OwnWalk
import Derived.OwnWalkIn
import Derived.RangeFuncBound
import Derived.RangeFuncBox
import Derived.RangeFuncCalls
import Derived.RangeFuncLeaves
import Derived.RangeFuncNested
import Derived.RowKit3
import Derived.Shelf.Abstract
import Derived.Shelf.RegionOpen
import Derived.Shelf.Spec.TrailingZeros
import Derived.StillTactics
import Derived.StillTailTactics
import Derived.TacticsInMore
import Derived.Test.YtjdnpkicdmapnaaGreatDoorProg
import Derived.WalkKit
import Derived.WalkLawsBesides
import Derived.WalkMore
import Derived.WalkSpells
set_option linter.unusedVariables false
set_option linter.unusedSimpArgs false
set_option exponentiation.threshold 10000
namespace Go.Proofs.YtjdnpkicdmapnaaGreatDoor
open Go.RowKit GW NL
/-- long, of two numbers -/
theorem long2 (b n m c k n' m' c' k' : Nat) (A B A' B' : Option Addr) (w : World) (h1 : w.cell? ⟨b, 1, none⟩ = some (.slice A n c)) (h2 : w.cell? ⟨b, 2, none⟩ = some (.slice B m k)) (h3 : w.cell? ⟨b, 4, none⟩ = some (.slice A' n' c')) (h4 : w.cell? ⟨b, 5, none⟩ = some (.slice B' m' k')) (bb : Bool) (hbb : Hid (decide (40 < n ∨ 40 < m ∨ 40 < n' ∨ 40 < m') = bb)) :
    Calls Tryz.prog 8 #[.slice (some ⟨b, 0, none⟩) 2 2] w fun e w' => e = .returned (.bool bb) ∧ Below w.heap.size w w' := by
  go_enter Tryz.func8, Tryz.ntmps8
  go_wp2_with fail
  go_loopw [3] (fun i wr => Below w.heap.size w wr ∧ (i = .int .i64 0 ∨ (i = .int .i64 1 ∧ ¬ (40 < n ∨ 40 < m)) ∨ (i = .int .i64 2 ∧ ¬ (40 < n ∨ 40 < m) ∧ ¬ (40 < n' ∨ 40 < m')))) (fun i _ => 2 - (intOf i).toNat)
  case atStart => exact ⟨Below.refl _ _, .inl rfl⟩
  case round =>
    obtain ⟨hb, hi⟩ := hrel
    rcases hi with rfl | ⟨rfl, hno⟩ | ⟨rfl, hno, hno2⟩
    · have e1 := below_old hb h1
      have e2 := below_old hb h2
      by_cases hn : 40 < n
      · have hn2 : (40 : Int) < (n : Int) := by omega
        obtain rfl : bb = true := hbb.out.symm.trans (decide_eq_true (.inl hn))
        clear hn
        go_wp2_with fail
        go_ret
        exact ⟨rfl, hb⟩
      · have hn2 : ¬ (40 : Int) < (n : Int) := by omega
        by_cases hm : 40 < m
        · have hm2 : (40 : Int) < (m : Int) := by omega
          obtain rfl : bb = true := hbb.out.symm.trans (decide_eq_true (.inr (.inl hm)))
          clear hn hm
          go_wp2_with fail
          go_ret
          exact ⟨rfl, hb⟩
        · have hm2 : ¬ (40 : Int) < (m : Int) := by omega
          have HD := Lib.hid (show ¬ (40 < n ∨ 40 < m) by omega)
          clear hn hm
          go_wp2_with fail
          exact ⟨⟨hb, .inr (.inl ⟨rfl, HD.out⟩)⟩, by simp [intOf]⟩
    · have HO := Lib.hid hno
      clear hno
      have e1 := below_old hb h3
      have e2 := below_old hb h4
      by_cases hn : 40 < n'
      · have hn2 : (40 : Int) < (n' : Int) := by omega
        obtain rfl : bb = true := hbb.out.symm.trans (decide_eq_true (.inr (.inr (.inl hn))))
        clear hn
        go_wp2_with fail
        go_ret
        exact ⟨rfl, hb⟩
      · have hn2 : ¬ (40 : Int) < (n' : Int) := by omega
        by_cases hm : 40 < m'
        · have hm2 : (40 : Int) < (m' : Int) := by omega
          obtain rfl : bb = true := hbb.out.symm.trans (decide_eq_true (.inr (.inr (.inr hm))))
          clear hn hm
          go_wp2_with fail
          go_ret
          exact ⟨rfl, hb⟩
        · have hm2 : ¬ (40 : Int) < (m' : Int) := by omega
          have HD := Lib.hid (show ¬ (40 < n' ∨ 40 < m') by omega)
          clear hn hm
          go_wp2_with fail
          exact ⟨⟨hb, .inr (.inr ⟨rfl, HO.out, HD.out⟩)⟩, by simp [intOf]⟩
    · obtain rfl : bb = false := hbb.out.symm.trans (decide_eq_false (by omega))
      clear hno hno2
      go_wp2_with fail
      go_ret
      exact ⟨rfl, hb⟩
theorem lsame_l (s : Bool) (A1 B1 A2 B2 : Option Addr) (c1 k1 c2 k2 : Nat) (l m : List Nat) (w : World) (h1 : SlW w A1 c1 l) (j1 : SlW w B1 k1 m) (h2 : SlW w A2 c2 l) (j2 : SlW w B2 k2 m) :
    Calls Tryz.prog 24 #[.agg #[.bool s, .slice A1 l.length c1, .slice B1 m.length k1], .agg #[.bool s, .slice A2 l.length c2, .slice B2 m.length k2]] w fun e w' => e = .returned (.bool true) ∧ Below w.heap.size w w' := by
  refine calls_b fun g => ?_
  have C1 := Lib.hid (fun w h1 h2 => same_any A1 A2 c1 c2 l w h1 h2)
  have C2 := Lib.hid (fun w h1 h2 => same_any B1 B2 k1 k2 m w h1 h2)
  have H1 := Lib.hid h1
  have H2 := Lib.hid h2
  have J1 := Lib.hid j1
  have J2 := Lib.hid j2
  clear h1 h2 j1 j2
  generalize l.length = ln at *
  generalize m.length = ld at *
  go_enter Tryz.func24, Tryz.ntmps24
  go_wp2_with (with_reducible refine G.any_mark _ ?_; (try generalize Array.size (World.heap (G.w _)) = bk); (try dsimp only [List.set_cons_zero, List.set_cons_succ]); (try clear g); intro g)
  refine (C1.out _ (G.sl g (by simp) H1.out) (G.sl g (by simp) H2.out)).mono ?_
  rintro e w1 ⟨rfl, hb⟩
  obtain ⟨g1, rfl⟩ := G.call_ex _ hb
  clear hb
  (try clear g)
  revert g1
  intro g
  go_wp2_with (with_reducible refine G.any_mark _ ?_; (try generalize Array.size (World.heap (G.w _)) = bk); (try dsimp only [List.set_cons_zero, List.set_cons_succ]); (try clear g); intro g)
  refine (C2.out _ (G.sl g (by simp) J1.out) (G.sl g (by simp) J2.out)).mono ?_
  rintro e w1 ⟨rfl, hb⟩
  obtain ⟨g1, rfl⟩ := G.call_ex _ hb
  clear hb
  (try clear g)
  revert g1
  intro g
  go_wp2_with (with_reducible refine G.any_mark _ ?_; (try generalize Array.size (World.heap (G.w _)) = bk); (try dsimp only [List.set_cons_zero, List.set_cons_succ]); (try clear g); intro g)
  go_ret
  exact ⟨rfl, G.below _⟩
set_option maxRecDepth 20000 in
set_option maxHeartbeats 8000000 in
theorem sums4_short (s1 s2 : Bool) (A1 B1 A2 B2 : Option Addr) (c1 k1 c2 k2 : Nat) (l1 m1 l2 m2 : List Nat) (w : World) (h1 : SlW w A1 c1 l1) (j1 : SlW w B1 k1 m1) (h2 : SlW w A2 c2 l2) (j2 : SlW w B2 k2 m2) (hs : ¬ (40 < l1.length ∨ 40 < m1.length ∨ 40 < l2.length ∨ 40 < m2.length)) (hT : Tab w) :
    Calls Tryz.prog 3 #[.agg #[.bool s1, .slice A1 l1.length c1, .slice B1 m1.length k1], .agg #[.bool s2, .slice A2 l2.length c2, .slice B2 m2.length k2]] w fun e w' => e = .returned (.bool true) ∧ Below w.heap.size w w' := by
  refine calls_b fun g => ?_
  have CL := Lib.hid llives_x
  have CW1 := Lib.hid (fun w h => own_any A1 c1 l1 w h (by omega))
  have CW2 := Lib.hid (fun w h => own_any B1 k1 m1 w h (by omega))
  have CW3 := Lib.hid (fun w h => own_any A2 c2 l2 w h (by omega))
  have CW4 := Lib.hid (fun w h => own_any B2 k2 m2 w h (by omega))
  unfold RLim at CW1 CW2 CW3 CW4
  have CK1 := Lib.hid (fun w a b t => rcheck s1 A1 B1 c1 k1 l1 m1 w a b t)
  have CK2 := Lib.hid (fun A B c k w a b => rrcheck s1 A B c k l1 m1 w a b)
  have SA := Lib.hid (fun A B c k w a b d e => lsame_l s1 A1 B1 A B c1 k1 c k l1 m1 w a b d e)
  have SB := Lib.hid (fun A B c k w a b d e => lsame_l s2 A2 B2 A B c2 k2 c k l2 m2 w a b d e)
  have QP0 := Lib.hid (fun w h j t => qNeg_any s1 A1 B1 c1 k1 l1 m1 w h j t)
  have R0 := Lib.hid (fun A B c k w h j => rNeg4_any s1 A B c k l1 m1 w h j)
  have QP1 := Lib.hid (fun w a b d e t => qAdd_any s1 s2 A1 B1 A2 B2 c1 k1 c2 k2 l1 m1 l2 m2 w a b d e t)
  have R1 := Lib.hid (fun A B A' B' c k c' k' w a b d e => rAdd4_any s1 s2 A B A' B' c k c' k' l1 m1 l2 m2 w a b d e)
  have QP2 := Lib.hid (fun w a b d e t => qSub_any s1 s2 A1 B1 A2 B2 c1 k1 c2 k2 l1 m1 l2 m2 w a b d e t)
  have R2 := Lib.hid (fun A B A' B' c k c' k' w a b d e => rSub4_any s1 s2 A B A' B' c k c' k' l1 m1 l2 m2 w a b d e)
  have QP3 := Lib.hid (fun w a b d e t => qMul_any s1 s2 A1 B1 A2 B2 c1 k1 c2 k2 l1 m1 l2 m2 w a b d e t)
  have R3 := Lib.hid (fun A B A' B' c k c' k' w a b d e => rMul4_any s1 s2 A B A' B' c k c' k' l1 m1 l2 m2 w a b d e)
  have QP4 := Lib.hid (fun w a b d e t => qDiv_any s1 s2 A1 B1 A2 B2 c1 k1 c2 k2 l1 m1 l2 m2 w a b d e t)
  have R4 := Lib.hid (fun A B A' B' c k c' k' w a b d e => rDiv4_any s1 s2 A B A' B' c k c' k' l1 m1 l2 m2 w a b d e)
  have QP5 := Lib.hid (fun w a b d e t => qCmp_any s1 s2 A1 B1 A2 B2 c1 k1 c2 k2 l1 m1 l2 m2 w a b d e t)
  have R5 := Lib.hid (fun A B A' B' c k c' k' w a b d e => rCmp4_any s1 s2 A B A' B' c k c' k' l1 m1 l2 m2 w a b d e)
  obtain ⟨⟨t0, n0, d0, x0⟩, hr0⟩ : ∃ r, out1 (rchk s1 l1 m1) (outP (!s1 && decide (0 < l1.length)) (val l1) (val m1)) = r := ⟨_, rfl⟩
  rw [hr0] at QP0 R0
  obtain ⟨⟨t1, n1, d1, x1⟩, hr1⟩ : ∃ r, out2 (rchk s1 l1 m1) (rchk s2 l2 m2) (outX (fr s1 l1 m1 + fr s2 l2 m2)) = r := ⟨_, rfl⟩
  rw [hr1] at QP1 R1
  obtain ⟨⟨t2, n2, d2, x2⟩, hr2⟩ : ∃ r, out2 (rchk s1 l1 m1) (rchk s2 l2 m2) (outX (fr s1 l1 m1 - fr s2 l2 m2)) = r := ⟨_, rfl⟩
  rw [hr2] at QP2 R2
  obtain ⟨⟨t3, n3, d3, x3⟩, hr3⟩ : ∃ r, out2 (rchk s1 l1 m1) (rchk s2 l2 m2) (outX (fr s1 l1 m1 * fr s2 l2 m2)) = r := ⟨_, rfl⟩
  rw [hr3] at QP3 R3
  obtain ⟨⟨t4, n4, d4, x4⟩, hr4⟩ : ∃ r, out2 (rchk s1 l1 m1) (rchk s2 l2 m2) (divX (fr s1 l1 m1) (fr s2 l2 m2) (val l2)) = r := ⟨_, rfl⟩
  rw [hr4] at QP4 R4
  obtain ⟨⟨i5, x5⟩, hr5⟩ : ∃ r, cmpR (rchk s1 l1 m1) (rchk s2 l2 m2) (sgn (fr s1 l1 m1 - fr s2 l2 m2)) = r := ⟨_, rfl⟩
  rw [hr5] at QP5 R5
  unfold RPE at QP0 QP1 QP2 QP3 QP4 R0 R1 R2 R3 R4
  dsimp only at QP0 QP1 QP2 QP3 QP4 R0 R1 R2 R3 R4 QP5 R5
  have S0 := Lib.hid (fun A1 B1 A2 B2 c1 k1 c2 k2 w h1 j1 h2 j2 => lsame_l t0 A1 B1 A2 B2 c1 k1 c2 k2 (limbs n0) (limbs d0) w h1 j1 h2 j2)
  have S1 := Lib.hid (fun A1 B1 A2 B2 c1 k1 c2 k2 w h1 j1 h2 j2 => lsame_l t1 A1 B1 A2 B2 c1 k1 c2 k2 (limbs n1) (limbs d1) w h1 j1 h2 j2)
  have S2 := Lib.hid (fun A1 B1 A2 B2 c1 k1 c2 k2 w h1 j1 h2 j2 => lsame_l t2 A1 B1 A2 B2 c1 k1 c2 k2 (limbs n2) (limbs d2) w h1 j1 h2 j2)
  have S3 := Lib.hid (fun A1 B1 A2 B2 c1 k1 c2 k2 w h1 j1 h2 j2 => lsame_l t3 A1 B1 A2 B2 c1 k1 c2 k2 (limbs n3) (limbs d3) w h1 j1 h2 j2)
  have S4 := Lib.hid (fun A1 B1 A2 B2 c1 k1 c2 k2 w h1 j1 h2 j2 => lsame_l t4 A1 B1 A2 B2 c1 k1 c2 k2 (limbs n4) (limbs d4) w h1 j1 h2 j2)
  have H1 := Lib.hid h1
  have J1 := Lib.hid j1
  have H2 := Lib.hid h2
  have J2 := Lib.hid j2
  have HT := Lib.hid hT
  have HB : Hid (decide (40 < l1.length ∨ 40 < m1.length ∨ 40 < l2.length ∨ 40 < m2.length) = false) := Lib.hid (decide_eq_false hs)
  clear hs hr0 hr1 hr2 hr3 hr4 hr5 h1 j1 h2 j2 hT
  generalize rchk s1 l1 m1 = ck at *
  generalize l1.length = ll1 at *
  generalize m1.length = lm1 at *
  generalize l2.length = ll2 at *
  generalize m2.length = lm2 at *
  generalize (limbs n0).length = en0 at *
  generalize (limbs d0).length = ed0 at *
  generalize (limbs n1).length = en1 at *
  generalize (limbs d1).length = ed1 at *
  generalize (limbs n2).length = en2 at *
  generalize (limbs d2).length = ed2 at *
  generalize (limbs n3).length = en3 at *
  generalize (limbs d3).length = ed3 at *
  generalize (limbs n4).length = en4 at *
  generalize (limbs d4).length = ed4 at *
  go_enter Tryz.func3, Tryz.ntmps3
  go_wp2_with (with_reducible refine G.any_mark _ ?_; (try generalize Array.size (World.heap (G.w _)) = bk); (try dsimp only [List.set_cons_zero, List.set_cons_succ]); (try clear g); intro g)
  refine (CL.out _ (G.tab g HT.out)).mono ?_
  rintro e w1 ⟨rfl, hb⟩
  obtain ⟨g1, rfl⟩ := G.call_ex _ hb
  clear hb
  (try clear g)
  revert g1
  intro g
  go_wp2_with (with_reducible refine G.any_mark _ ?_; (try generalize Array.size (World.heap (G.w _)) = bk); (try dsimp only [List.set_cons_zero, List.set_cons_succ]); (try clear g); intro g)
  (try (refine cmark _ ?_; (try dsimp only [List.set_cons_zero, List.set_cons_succ]); (try clear g); intro g))
  refine (long2 _ ll1 lm1 c1 k1 ll2 lm2 c2 k2 A1 B1 A2 B2 _ ?_ ?_ ?_ ?_ false HB).mono ?_
  · go_simp
  · go_simp
  · go_simp
  · go_simp
  rintro e w1 ⟨rfl, hb⟩
  obtain ⟨g1, rfl⟩ := G.call_ex _ hb
  clear hb
  (try clear g)
  revert g1
  intro g
  go_wp2_with (with_reducible refine G.any_mark _ ?_; (try generalize Array.size (World.heap (G.w _)) = bk); (try dsimp only [List.set_cons_zero, List.set_cons_succ]); (try clear g); intro g)
  go_cut [2, 3, 5] (fun r2 r3 r5 wx => ∃ (ba : Nat) (bb : Nat) (bl : Nat) (bu : Nat) (X1 : Option Addr) (q1 : Nat) (P1 : Frag) (X2 : Option Addr) (q2 : Nat) (P2 : Frag) (g : G w [] [(bu, 25, [.bool s1, .slice X1 ll1 q1, .slice X2 lm1 q2]), (bl, 25, [.bool s1, .slice A1 ll1 c1, .slice B1 lm1 k1, .bool s2, .slice A2 ll2 c2, .slice B2 lm2 k2]), (bb, 25, [.bool s2, .slice A2 ll2 c2, .slice B2 lm2 k2]), (ba, 25, [.bool s1, .slice A1 ll1 c1, .slice B1 lm1 k1])] [P2, P1, heapOf w]), r2 = .pointer (some ⟨ba, 0, none⟩) ∧ r3 = .pointer (some ⟨bb, 0, none⟩) ∧ r5 = .pointer (some ⟨bu, 0, none⟩) ∧ P1.Sl X1 q1 l1 ∧ P2.Sl X2 q2 m1 ∧ wx = g.w)
  case first =>
    go_region_held3 (G.heldN g [false, false, true]) (simp [G.heldN, HeldN, go_sem]) (first
        | (go_at_call 9; (with_reducible refine (CW1.out _ ?_).mono ?_); (· exact G.sl _ (by simp) H1.out); rintro e w1 ⟨X1, q1, P1, rfl, hx1, hn1⟩; obtain ⟨g1, rfl⟩ := G.new_ex _ hn1; clear hn1; (try clear g); revert g1; intro g)
        | (go_at_call 9; (with_reducible refine (CW2.out _ ?_).mono ?_); (· exact G.sl _ (by simp) J1.out); rintro e w1 ⟨X2, q2, P2, rfl, hx2, hn2⟩; obtain ⟨g1, rfl⟩ := G.new_ex _ hn2; clear hn2; (try clear g); revert g1; intro g))
    all_goals (first | ((try simp only [G.drew_eq, G.drewN_eq]); (refine G.any_mark _ ?_; (try clear g); intro g)) | skip)
    all_goals go_wp2_with fail
    all_goals go_meet
    all_goals exact ⟨_, _, _, _, X1, q1, P1, X2, q2, P2, g, rfl, rfl, rfl, hx1, hx2, rfl⟩
  case rest =>
  obtain ⟨ba, bb, bl, bu, X1, q1, P1, X2, q2, P2, g, rfl, rfl, rfl, hx1, hx2, rfl⟩ := hcut
  go_wp2_with (with_reducible refine G.any_mark _ ?_; (try generalize Array.size (World.heap (G.w _)) = bk); (try dsimp only [List.set_cons_zero, List.set_cons_succ]); (try clear g); intro g)
  go_cut [2, 3, 5, 6] (fun r2 r3 r5 r6 wx => ∃ (ba : Nat) (bb : Nat) (bl : Nat) (bu : Nat) (X1 : Option Addr) (q1 : Nat) (P1 : Frag) (X2 : Option Addr) (q2 : Nat) (P2 : Frag) (bv : Nat) (X3 : Option Addr) (q3 : Nat) (P3 : Frag) (X4 : Option Addr) (q4 : Nat) (P4 : Frag) (g : G w [] [(bv, 25, [.bool s2, .slice X3 ll2 q3, .slice X4 lm2 q4]), (bu, 25, [.bool s1, .slice X1 ll1 q1, .slice X2 lm1 q2]), (bl, 25, [.bool s1, .slice A1 ll1 c1, .slice B1 lm1 k1, .bool s2, .slice A2 ll2 c2, .slice B2 lm2 k2]), (bb, 25, [.bool s2, .slice A2 ll2 c2, .slice B2 lm2 k2]), (ba, 25, [.bool s1, .slice A1 ll1 c1, .slice B1 lm1 k1])] [P4, P3, P2, P1, heapOf w]), r2 = .pointer (some ⟨ba, 0, none⟩) ∧ r3 = .pointer (some ⟨bb, 0, none⟩) ∧ r5 = .pointer (some ⟨bu, 0, none⟩) ∧ r6 = .pointer (some ⟨bv, 0, none⟩) ∧ P1.Sl X1 q1 l1 ∧ P2.Sl X2 q2 m1 ∧ P3.Sl X3 q3 l2 ∧ P4.Sl X4 q4 m2 ∧ wx = g.w)
  case first =>
    go_region_held3 (G.heldN g [false, false, true]) (simp [G.heldN, HeldN, go_sem]) (first
        | (go_at_call 9; (with_reducible refine (CW3.out _ ?_).mono ?_); (· exact G.sl _ (by simp) H2.out); rintro e w1 ⟨X3, q3, P3, rfl, hx3, hn3⟩; obtain ⟨g1, rfl⟩ := G.new_ex _ hn3; clear hn3; (try clear g); revert g1; intro g)
        | (go_at_call 9; (with_reducible refine (CW4.out _ ?_).mono ?_); (· exact G.sl _ (by simp) J2.out); rintro e w1 ⟨X4, q4, P4, rfl, hx4, hn4⟩; obtain ⟨g1, rfl⟩ := G.new_ex _ hn4; clear hn4; (try clear g); revert g1; intro g))
    all_goals (first | ((try simp only [G.drew_eq, G.drewN_eq]); (refine G.any_mark _ ?_; (try clear g); intro g)) | skip)
    all_goals go_wp2_with fail
    all_goals go_meet
    all_goals exact ⟨_, _, _, _, X1, q1, P1, X2, q2, P2, _, X3, q3, P3, X4, q4, P4, g, rfl, rfl, rfl, rfl, hx1, hx2, hx3, hx4, rfl⟩
  case rest =>
  obtain ⟨ba, bb, bl, bu, X1, q1, P1, X2, q2, P2, bv, X3, q3, P3, X4, q4, P4, g, rfl, rfl, rfl, rfl, hx1, hx2, hx3, hx4, rfl⟩ := hcut
  clear CW1 CW2 CW3 CW4 CL HB
  go_wp2_with (with_reducible refine G.any_mark _ ?_; (try generalize Array.size (World.heap (G.w _)) = bk); (try dsimp only [List.set_cons_zero, List.set_cons_succ]); (try clear g); intro g)
  (try (refine cmark _ ?_; (try dsimp only [List.set_cons_zero, List.set_cons_succ]); (try clear g); intro g))
  refine (QP0.out _ (G.sl g (by simp) H1.out) (G.sl g (by simp) J1.out) (G.tab g HT.out)).mono ?_
  rintro e w1 ⟨Af, cf, Ff, Bf, df, Hf, rfl, hsf, htf, hn, hm⟩
  have hnnf := fun k o hk => Nat.le_trans g.chg.size (hn.new k o hk)
  have hmmf := fun k o hk => Nat.le_trans g.chg.size (hm.new k o hk)
  obtain ⟨g1, rfl⟩ := G.new2_ex _ hn hm
  clear hn hm
  (try clear g)
  revert g1
  intro g
  go_wp2_with (with_reducible refine G.any_mark _ ?_; (try generalize Array.size (World.heap (G.w _)) = bk); (try dsimp only [List.set_cons_zero, List.set_cons_succ]); (try clear g); intro g)
  (try (refine cmark _ ?_; (try dsimp only [List.set_cons_zero, List.set_cons_succ]); (try clear g); intro g))
  refine (R0.out _ _ _ _ _ (G.sl g (by simp) hx1) (G.sl g (by simp) hx2)).mono ?_
  rintro e w1 ⟨Ah, ch, Fh, Bh, dh, Hh, rfl, hsh, hth, hn, hm⟩
  have hnnh := fun k o hk => Nat.le_trans g.chg.size (hn.new k o hk)
  have hmmh := fun k o hk => Nat.le_trans g.chg.size (hm.new k o hk)
  obtain ⟨g1, rfl⟩ := G.new2_ex _ hn hm
  clear hn hm
  (try clear g)
  revert g1
  intro g
  go_wp2_with (with_reducible refine G.any_mark _ ?_; (try generalize Array.size (World.heap (G.w _)) = bk); (try dsimp only [List.set_cons_zero, List.set_cons_succ]); (try clear g); intro g)
  (as_aux_lemma =>
  (try (refine cmark _ ?_; (try dsimp only [List.set_cons_zero, List.set_cons_succ]); (try clear g); intro g))
  refine (QP1.out _ (G.sl g (by simp) H1.out) (G.sl g (by simp) J1.out) (G.sl g (by simp) H2.out) (G.sl g (by simp) J2.out) (G.tab g HT.out)).mono ?_
  rintro e w1 ⟨Ai, ci, Fi, Bi, di, Hi, rfl, hsi, hti, hn, hm⟩
  have hnni := fun k o hk => Nat.le_trans g.chg.size (hn.new k o hk)
  have hmmi := fun k o hk => Nat.le_trans g.chg.size (hm.new k o hk)
  obtain ⟨g1, rfl⟩ := G.new2_ex _ hn hm
  clear hn hm
  (try clear g)
  revert g1
  intro g
  go_wp2_with (with_reducible refine G.any_mark _ ?_; (try generalize Array.size (World.heap (G.w _)) = bk); (try dsimp only [List.set_cons_zero, List.set_cons_succ]); (try clear g); intro g)
  (try (refine cmark _ ?_; (try dsimp only [List.set_cons_zero, List.set_cons_succ]); (try clear g); intro g))
  refine (R1.out _ _ _ _ _ _ _ _ _ (G.sl g (by simp) hx1) (G.sl g (by simp) hx2) (G.sl g (by simp) hx3) (G.sl g (by simp) hx4)).mono ?_
  rintro e w1 ⟨Aj, cj, Fj, Bj, dj, Hj, rfl, hsj, htj, hn, hm⟩
  have hnnj := fun k o hk => Nat.le_trans g.chg.size (hn.new k o hk)
  have hmmj := fun k o hk => Nat.le_trans g.chg.size (hm.new k o hk)
  obtain ⟨g1, rfl⟩ := G.new2_ex _ hn hm
  clear hn hm
  (try clear g)
  revert g1
  intro g
  go_wp2_with (with_reducible refine G.any_mark _ ?_; (try generalize Array.size (World.heap (G.w _)) = bk); (try dsimp only [List.set_cons_zero, List.set_cons_succ]); (try clear g); intro g)
  (as_aux_lemma =>
  (try (refine cmark _ ?_; (try dsimp only [List.set_cons_zero, List.set_cons_succ]); (try clear g); intro g))
  refine (QP2.out _ (G.sl g (by simp) H1.out) (G.sl g (by simp) J1.out) (G.sl g (by simp) H2.out) (G.sl g (by simp) J2.out) (G.tab g HT.out)).mono ?_
  rintro e w1 ⟨Ak, ck, Fk, Bk, dk, Hk, rfl, hsk, htk, hn, hm⟩
  have hnnk := fun k o hk => Nat.le_trans g.chg.size (hn.new k o hk)
  have hmmk := fun k o hk => Nat.le_trans g.chg.size (hm.new k o hk)
  obtain ⟨g1, rfl⟩ := G.new2_ex _ hn hm
  clear hn hm
  (try clear g)
  revert g1
  intro g
  go_wp2_with (with_reducible refine G.any_mark _ ?_; (try generalize Array.size (World.heap (G.w _)) = bk); (try dsimp only [List.set_cons_zero, List.set_cons_succ]); (try clear g); intro g)
  (try (refine cmark _ ?_; (try dsimp only [List.set_cons_zero, List.set_cons_succ]); (try clear g); intro g))
  refine (R2.out _ _ _ _ _ _ _ _ _ (G.sl g (by simp) hx1) (G.sl g (by simp) hx2) (G.sl g (by simp) hx3) (G.sl g (by simp) hx4)).mono ?_
  rintro e w1 ⟨Am, cm, Fm, Bm, dm, Hm, rfl, hsm, htm, hn, hm⟩
  have hnnm := fun k o hk => Nat.le_trans g.chg.size (hn.new k o hk)
  have hmmm := fun k o hk => Nat.le_trans g.chg.size (hm.new k o hk)
  obtain ⟨g1, rfl⟩ := G.new2_ex _ hn hm
  clear hn hm
  (try clear g)
  revert g1
  intro g
  go_wp2_with (with_reducible refine G.any_mark _ ?_; (try generalize Array.size (World.heap (G.w _)) = bk); (try dsimp only [List.set_cons_zero, List.set_cons_succ]); (try clear g); intro g)
  (as_aux_lemma =>
  (try (refine cmark _ ?_; (try dsimp only [List.set_cons_zero, List.set_cons_succ]); (try clear g); intro g))
  refine (QP3.out _ (G.sl g (by simp) H1.out) (G.sl g (by simp) J1.out) (G.sl g (by simp) H2.out) (G.sl g (by simp) J2.out) (G.tab g HT.out)).mono ?_
  rintro e w1 ⟨An, cn, Fn, Bn, dn, Hn, rfl, hsn, htn, hn, hm⟩
  have hnnn := fun k o hk => Nat.le_trans g.chg.size (hn.new k o hk)
  have hmmn := fun k o hk => Nat.le_trans g.chg.size (hm.new k o hk)
  obtain ⟨g1, rfl⟩ := G.new2_ex _ hn hm
  clear hn hm
  (try clear g)
  revert g1
  intro g
  go_wp2_with (with_reducible refine G.any_mark _ ?_; (try generalize Array.size (World.heap (G.w _)) = bk); (try dsimp only [List.set_cons_zero, List.set_cons_succ]); (try clear g); intro g)
  (try (refine cmark _ ?_; (try dsimp only [List.set_cons_zero, List.set_cons_succ]); (try clear g); intro g))
  refine (R3.out _ _ _ _ _ _ _ _ _ (G.sl g (by simp) hx1) (G.sl g (by simp) hx2) (G.sl g (by simp) hx3) (G.sl g (by simp) hx4)).mono ?_
  rintro e w1 ⟨Ap, cp, Fp, Bp, dp, Hp, rfl, hsp, htp, hn, hm⟩
  have hnnp := fun k o hk => Nat.le_trans g.chg.size (hn.new k o hk)
  have hmmp := fun k o hk => Nat.le_trans g.chg.size (hm.new k o hk)
  obtain ⟨g1, rfl⟩ := G.new2_ex _ hn hm
  clear hn hm
  (try clear g)
  revert g1
  intro g
  go_wp2_with (with_reducible refine G.any_mark _ ?_; (try generalize Array.size (World.heap (G.w _)) = bk); (try dsimp only [List.set_cons_zero, List.set_cons_succ]); (try clear g); intro g)
  (as_aux_lemma =>
  (try (refine cmark _ ?_; (try dsimp only [List.set_cons_zero, List.set_cons_succ]); (try clear g); intro g))
  refine (QP4.out _ (G.sl g (by simp) H1.out) (G.sl g (by simp) J1.out) (G.sl g (by simp) H2.out) (G.sl g (by simp) J2.out) (G.tab g HT.out)).mono ?_
  rintro e w1 ⟨Ar, cr, Fr, Br, dr, Hr, rfl, hsr, htr, hn, hm⟩
  have hnnr := fun k o hk => Nat.le_trans g.chg.size (hn.new k o hk)
  have hmmr := fun k o hk => Nat.le_trans g.chg.size (hm.new k o hk)
  obtain ⟨g1, rfl⟩ := G.new2_ex _ hn hm
  clear hn hm
  (try clear g)
  revert g1
  intro g
  go_wp2_with (with_reducible refine G.any_mark _ ?_; (try generalize Array.size (World.heap (G.w _)) = bk); (try dsimp only [List.set_cons_zero, List.set_cons_succ]); (try clear g); intro g)
  (try (refine cmark _ ?_; (try dsimp only [List.set_cons_zero, List.set_cons_succ]); (try clear g); intro g))
  refine (R4.out _ _ _ _ _ _ _ _ _ (G.sl g (by simp) hx1) (G.sl g (by simp) hx2) (G.sl g (by simp) hx3) (G.sl g (by simp) hx4)).mono ?_
  rintro e w1 ⟨At, ct, Ft, Bt, dt, Ht, rfl, hst, htt, hn, hm⟩
  have hnnt := fun k o hk => Nat.le_trans g.chg.size (hn.new k o hk)
  have hmmt := fun k o hk => Nat.le_trans g.chg.size (hm.new k o hk)
  obtain ⟨g1, rfl⟩ := G.new2_ex _ hn hm
  clear hn hm
  (try clear g)
  revert g1
  intro g
  go_wp2_with (with_reducible refine G.any_mark _ ?_; (try generalize Array.size (World.heap (G.w _)) = bk); (try dsimp only [List.set_cons_zero, List.set_cons_succ]); (try clear g); intro g)
  (as_aux_lemma =>
  (try (refine cmark _ ?_; (try dsimp only [List.set_cons_zero, List.set_cons_succ]); (try clear g); intro g))
  refine (QP5.out _ (G.sl g (by simp) H1.out) (G.sl g (by simp) J1.out) (G.sl g (by simp) H2.out) (G.sl g (by simp) J2.out) (G.tab g HT.out)).mono ?_
  rintro e w1 ⟨rfl, hb⟩
  obtain ⟨g1, rfl⟩ := G.call_ex _ hb
  clear hb
  (try clear g)
  revert g1
  intro g
  go_wp2_with (with_reducible refine G.any_mark _ ?_; (try generalize Array.size (World.heap (G.w _)) = bk); (try dsimp only [List.set_cons_zero, List.set_cons_succ]); (try clear g); intro g)
  (try (refine cmark _ ?_; (try dsimp only [List.set_cons_zero, List.set_cons_succ]); (try clear g); intro g))
  refine (R5.out _ _ _ _ _ _ _ _ _ (G.sl g (by simp) hx1) (G.sl g (by simp) hx2) (G.sl g (by simp) hx3) (G.sl g (by simp) hx4)).mono ?_
  rintro e w1 ⟨rfl, hb⟩
  obtain ⟨g1, rfl⟩ := G.call_ex _ hb
  clear hb
  (try clear g)
  revert g1
  intro g
  go_wp2_with (with_reducible refine G.any_mark _ ?_; (try generalize Array.size (World.heap (G.w _)) = bk); (try dsimp only [List.set_cons_zero, List.set_cons_succ]); (try clear g); intro g)
  (first | ((try simp only [G.drew_eq, G.drewN_eq]); (refine G.any_mark _ ?_; (try clear g); intro g)) | skip)
  go_region_held3 (G.heldN g [false, false, false, false, false, false, false, false, false, false, true, true, false, true, true]) (simp [G.heldN, HeldN, go_sem]) (first
      | (go_at_call 22; (with_reducible refine (CK1.out _ ?_ ?_ ?_).mono ?_); (· exact G.sl _ (by simp) H1.out); (· exact G.sl _ (by simp) J1.out); (· exact G.tab _ HT.out); rintro e w1 ⟨rfl, hb⟩; obtain ⟨g1, rfl⟩ := G.call_ex _ hb; clear hb; (try clear g); revert g1; intro g)
      | (go_at_call 23; (with_reducible refine (CK2.out _ _ _ _ _ ?_ ?_).mono ?_); (· exact G.sl _ (by simp) hx1); (· exact G.sl _ (by simp) hx2); rintro e w1 ⟨rfl, hb⟩; obtain ⟨g1, rfl⟩ := G.call_ex _ hb; clear hb; (try clear g); revert g1; intro g)
      | (go_at_call 24; (with_reducible refine (SA.out _ _ _ _ _ ?_ ?_ ?_ ?_).mono ?_); (· exact G.sl _ (by simp) H1.out); (· exact G.sl _ (by simp) J1.out); (· exact G.sl _ (by simp) hx1); (· exact G.sl _ (by simp) hx2); rintro e w1 ⟨rfl, hb⟩; obtain ⟨g1, rfl⟩ := G.call_ex _ hb; clear hb; (try clear g); revert g1; intro g)
      | (go_at_call 24; (with_reducible refine (SB.out _ _ _ _ _ ?_ ?_ ?_ ?_).mono ?_); (· exact G.sl _ (by simp) H2.out); (· exact G.sl _ (by simp) J2.out); (· exact G.sl _ (by simp) hx3); (· exact G.sl _ (by simp) hx4); rintro e w1 ⟨rfl, hb⟩; obtain ⟨g1, rfl⟩ := G.call_ex _ hb; clear hb; (try clear g); revert g1; intro g))
  all_goals (first | ((try simp only [G.drew_eq, G.drewN_eq]); (refine G.any_mark _ ?_; (try clear g); intro g)) | skip)
  all_goals go_wp2_with (with_reducible refine G.any_mark _ ?_; (try generalize Array.size (World.heap (G.w _)) = bk); (try dsimp only [List.set_cons_zero, List.set_cons_succ]); (try clear g); intro g)
  (as_aux_lemma =>
  (try (refine cmark _ ?_; (try dsimp only [List.set_cons_zero, List.set_cons_succ]); (try clear g); intro g))
  refine (S0.out _ _ _ _ _ _ _ _ _ (G.sl g (by simp) hsf) (G.sl g (by simp) htf) (G.sl g (by simp) hsh) (G.sl g (by simp) hth)).mono ?_
  rintro e w1 ⟨rfl, hb⟩
  obtain ⟨g1, rfl⟩ := G.call_ex _ hb
  clear hb
  (try clear g)
  revert g1
  intro g
  go_wp2_with (with_reducible refine G.any_mark _ ?_; (try generalize Array.size (World.heap (G.w _)) = bk); (try dsimp only [List.set_cons_zero, List.set_cons_succ]); (try clear g); intro g)
  (try (refine cmark _ ?_; (try dsimp only [List.set_cons_zero, List.set_cons_succ]); (try clear g); intro g))
  refine (S1.out _ _ _ _ _ _ _ _ _ (G.sl g (by simp) hsi) (G.sl g (by simp) hti) (G.sl g (by simp) hsj) (G.sl g (by simp) htj)).mono ?_
  rintro e w1 ⟨rfl, hb⟩
  obtain ⟨g1, rfl⟩ := G.call_ex _ hb
  clear hb
  (try clear g)
  revert g1
  intro g
  go_wp2_with (with_reducible refine G.any_mark _ ?_; (try generalize Array.size (World.heap (G.w _)) = bk); (try dsimp only [List.set_cons_zero, List.set_cons_succ]); (try clear g); intro g)
  (try (refine cmark _ ?_; (try dsimp only [List.set_cons_zero, List.set_cons_succ]); (try clear g); intro g))
  refine (S2.out _ _ _ _ _ _ _ _ _ (G.sl g (by simp) hsk) (G.sl g (by simp) htk) (G.sl g (by simp) hsm) (G.sl g (by simp) htm)).mono ?_
  rintro e w1 ⟨rfl, hb⟩
  obtain ⟨g1, rfl⟩ := G.call_ex _ hb
  clear hb
  (try clear g)
  revert g1
  intro g
  go_wp2_with (with_reducible refine G.any_mark _ ?_; (try generalize Array.size (World.heap (G.w _)) = bk); (try dsimp only [List.set_cons_zero, List.set_cons_succ]); (try clear g); intro g)
  (as_aux_lemma =>
  (try (refine cmark _ ?_; (try dsimp only [List.set_cons_zero, List.set_cons_succ]); (try clear g); intro g))
  refine (S3.out _ _ _ _ _ _ _ _ _ (G.sl g (by simp) hsn) (G.sl g (by simp) htn) (G.sl g (by simp) hsp) (G.sl g (by simp) htp)).mono ?_
  rintro e w1 ⟨rfl, hb⟩
  obtain ⟨g1, rfl⟩ := G.call_ex _ hb
  clear hb
  (try clear g)
  revert g1
  intro g
  go_wp2_with (with_reducible refine G.any_mark _ ?_; (try generalize Array.size (World.heap (G.w _)) = bk); (try dsimp only [List.set_cons_zero, List.set_cons_succ]); (try clear g); intro g)
  (try (refine cmark _ ?_; (try dsimp only [List.set_cons_zero, List.set_cons_succ]); (try clear g); intro g))
  refine (S4.out _ _ _ _ _ _ _ _ _ (G.sl g (by simp) hsr) (G.sl g (by simp) htr) (G.sl g (by simp) hst) (G.sl g (by simp) htt)).mono ?_
  rintro e w1 ⟨rfl, hb⟩
  obtain ⟨g1, rfl⟩ := G.call_ex _ hb
  clear hb
  (try clear g)
  revert g1
  intro g
  go_wp2_with (with_reducible refine G.any_mark _ ?_; (try generalize Array.size (World.heap (G.w _)) = bk); (try dsimp only [List.set_cons_zero, List.set_cons_succ]); (try clear g); intro g)
  go_ret
  exact ⟨rfl, G.below _⟩)))))))
set_option maxRecDepth 20000 in
theorem sums4_long (s1 s2 : Bool) (A1 B1 A2 B2 : Option Addr) (c1 k1 c2 k2 : Nat) (l1 m1 l2 m2 : Nat) (w : World) (hs : 40 < l1 ∨ 40 < m1 ∨ 40 < l2 ∨ 40 < m2) (hT : Tab w) :
    Calls Tryz.prog 3 #[.agg #[.bool s1, .slice A1 l1 c1, .slice B1 m1 k1], .agg #[.bool s2, .slice A2 l2 c2, .slice B2 m2 k2]] w fun e w' => e = .returned (.bool true) ∧ Below w.heap.size w w' := by
  refine calls_b fun g => ?_
  have CL := Lib.hid llives_x
  have HT := Lib.hid hT
  have HB : Hid (decide (40 < l1 ∨ 40 < m1 ∨ 40 < l2 ∨ 40 < m2) = true) := Lib.hid (decide_eq_true hs)
  clear hT hs
  go_enter Tryz.func3, Tryz.ntmps3
  go_wp2_with (with_reducible refine G.any_mark _ ?_; (try generalize Array.size (World.heap (G.w _)) = bk); (try dsimp only [List.set_cons_zero, List.set_cons_succ]); (try clear g); intro g)
  refine (CL.out _ (G.tab g HT.out)).mono ?_
  rintro e w1 ⟨rfl, hb⟩
  obtain ⟨g1, rfl⟩ := G.call_ex _ hb
  clear hb
  (try clear g)
  revert g1
  intro g
  go_wp2_with (with_reducible refine G.any_mark _ ?_; (try generalize Array.size (World.heap (G.w _)) = bk); (try dsimp only [List.set_cons_zero, List.set_cons_succ]); (try clear g); intro g)
  (try (refine cmark _ ?_; (try dsimp only [List.set_cons_zero, List.set_cons_succ]); (try clear g); intro g))
  refine (long2 _ l1 m1 c1 k1 l2 m2 c2 k2 A1 B1 A2 B2 _ ?_ ?_ ?_ ?_ true HB).mono ?_
  · go_simp
  · go_simp
  · go_simp
  · go_simp
  rintro e w1 ⟨rfl, hb⟩
  obtain ⟨g1, rfl⟩ := G.call_ex _ hb
  clear hb
  (try clear g)
  revert g1
  intro g
  go_wp2_with (with_reducible refine G.any_mark _ ?_; (try generalize Array.size (World.heap (G.w _)) = bk); (try dsimp only [List.set_cons_zero, List.set_cons_succ]); (try clear g); intro g)
  go_ret
  exact ⟨rfl, G.below _⟩
theorem sums4_walk (s1 s2 : Bool) (A1 B1 A2 B2 : Option Addr) (c1 k1 c2 k2 : Nat) (l1 m1 l2 m2 : List Nat) (w : World) (h1 : l1.length ≤ 140737488355328 → SlW w A1 c1 l1) (j1 : m1.length ≤ 140737488355328 → SlW w B1 k1 m1) (h2 : l2.length ≤ 140737488355328 → SlW w A2 c2 l2) (j2 : m2.length ≤ 140737488355328 → SlW w B2 k2 m2) (hT : Tab w) :
    Calls Tryz.prog 3 #[.agg #[.bool s1, .slice A1 l1.length c1, .slice B1 m1.length k1], .agg #[.bool s2, .slice A2 l2.length c2, .slice B2 m2.length k2]] w fun e w' => e = .returned (.bool true) ∧ Below w.heap.size w w' := by
  by_cases hs : 40 < l1.length ∨ 40 < m1.length ∨ 40 < l2.length ∨ 40 < m2.length
  · exact sums4_long s1 s2 A1 B1 A2 B2 c1 k1 c2 k2 _ _ _ _ w hs hT
  · exact sums4_short s1 s2 A1 B1 A2 B2 c1 k1 c2 k2 l1 m1 l2 m2 w (h1 (by omega)) (j1 (by omega)) (h2 (by omega)) (j2 (by omega)) hs hT
end Go.Proofs.YtjdnpkicdmapnaaGreatDoor
