/- Plain facts and contracts of functions of the program, out of walks. Their conditions stand ahead of each. -/
import Derived.Test.YtjdnpkicdmapnaaGreatDoorRt2
import Derived.Test.YtjdnpkicdmapnaaGreatDoorRt3
import Derived.Test.YtjdnpkicdmapnaaGreatDoorRt10
import Derived.Test.YtjdnpkicdmapnaaGreatDoorRt35
import Derived.Test.YtjdnpkicdmapnaaGreatDoorRt41
import Derived.Test.YtjdnpkicdmapnaaGreatDoorRt42
import Derived.Below
import Derived.BigQuiet
import Derived.Deep.Draws
import Derived.Deep.LoopGhost
import Derived.Deep.QuietTactic
import Derived.Deep.RegionHeld3
import Derived.Deep.RegionLaw
import Derived.Defers
import Derived.Laws.BytesString
import Derived.Laws.Cells
import Derived.Laws.CopyOwn
import Derived.Laws.CopyRow
import Derived.Laws.NewBlocks
import Derived.Laws.OwnMore
import Derived.Laws.Pointers
import Derived.Laws.Rows
import Derived.Lib.BitFns
import Derived.Lib.Hide
import Derived.Lib.ItoaNum
import Derived.Lib.TrailingZeros
import Derived.LoopIn
import Derived.LoopNIn
import Derived.Maps.AppendAt
import Derived.OrdersIn
import Derived.OwnWalk
import Derived.OwnWalkIn
import Derived.RangeFuncBound
import Derived.RangeFuncBox
import Derived.RangeFuncCalls
import Derived.RangeFuncLeaves
import Derived.RangeFuncNested
import Derived.RowKit3
import Derived.Shelf.Abstract
import Derived.Shelf.RegionOpen
import Derived.Shelf.Spec.TrailingZeros
import Derived.StillTactics
import Derived.StillTailTactics
import Derived.TacticsInMore
import Derived.Test.YtjdnpkicdmapnaaGreatDoorProg
import Derived.WalkKit
import Derived.WalkLawsBesides
import Derived.WalkMore
import Derived.WalkSpells
set_option linter.unusedVariables false
set_option linter.unusedSimpArgs false
set_option exponentiation.threshold 10000
namespace Go.Proofs.YtjdnpkicdmapnaaGreatDoor
open Go.RowKit GW NL
set_option maxRecDepth 20000 in
set_option maxHeartbeats 4000000 in
theorem rrcheck (s : Bool) (A B : Option Addr) (c k : Nat) (ln ld : List Nat) (w : World) (h1 : SlW w A c ln) (h2 : SlW w B k ld) :
    Calls Tryz.prog 23 #[.agg #[.bool s, .slice A ln.length c, .slice B ld.length k]] w fun e w' => e = .returned (.int .i64 (rchk s ln ld)) ∧ Below w.heap.size w w' := by
  refine calls_b fun g => ?_
  have CK1 := Lib.hid (fun w h => rcheck_any A c ln w h)
  have CK2 := Lib.hid (fun w h => rcheck_any B k ld w h)
  have H1 := Lib.hid h1
  have H2 := Lib.hid h2
  by_cases hx1 : chk ln = 0
  · by_cases hx2 : chk ld = 0
    · obtain ⟨e1, b1, b2⟩ := chk_ok h1.ok hx1
      obtain ⟨e2, b3, b4⟩ := chk_ok h2.ok hx2
      have hrc : rchk s ln ld = if val ld = 0 then 6 else if (s = true ∧ val ln = 0) ∨ Nat.gcd (val ln) (val ld) ≠ 1 then 3 else 0 := by
        unfold rchk
        rw [hx1, hx2, if_neg (by decide), if_neg (by decide)]
      rw [hx1] at CK1
      rw [hx2] at CK2
      have CG := Lib.hid (fun F w hF h1 h2 => rgcd_any F A B c k (val ln) (val ld) w hF h1 h2 (by rw [← e1]; omega) (by rw [← e2]; omega))
      have CU := Lib.hid (fun X x w h => isone_any X x (Nat.gcd (val ln) (val ld)) w h)
      rw [← e1, ← e2] at CG
      have z1 : (val ln = 0 ∧ ln.length = 0) ∨ (val ln ≠ 0 ∧ 0 < ln.length) := by
        rw [show ln.length = (limbs (val ln)).length by rw [← e1]]
        by_cases h : val ln = 0
        · left; rw [h]; exact ⟨rfl, by rw [limbs_zero]; rfl⟩
        · right; exact ⟨h, (limbs_ne h).2⟩
      have z2 : (val ld = 0 ∧ ld.length = 0) ∨ (val ld ≠ 0 ∧ 0 < ld.length) := by
        rw [show ld.length = (limbs (val ld)).length by rw [← e2]]
        by_cases h : val ld = 0
        · left; rw [h]; exact ⟨rfl, by rw [limbs_zero]; rfl⟩
        · right; exact ⟨h, (limbs_ne h).2⟩
      unfold RAli at CG
      clear h1 h2 hx1 hx2 e1 e2 b1 b2 b3 b4
      generalize ln.length = n1 at *
      generalize ld.length = n2 at *
      rw [hrc]
      clear hrc
      generalize val ln = v1 at *
      generalize val ld = v2 at *
      rcases z2 with ⟨k1, k2⟩ | ⟨k1, k2⟩
      · rw [if_pos k1]
        clear k1
        subst k2
        go_enter Tryz.func23, Tryz.ntmps23
        go_wp2_with (with_reducible refine G.any_mark _ ?_; (try generalize Array.size (World.heap (G.w _)) = bk); (try dsimp only [List.set_cons_zero, List.set_cons_succ]); (try clear g); intro g)
        refine (CK1.out _ (G.sl g (by simp) H1.out)).mono ?_
        rintro e w1 ⟨rfl, hb⟩
        obtain ⟨g1, rfl⟩ := G.call_ex _ hb
        clear hb
        (try clear g)
        revert g1
        intro g
        go_wp2_with (with_reducible refine G.any_mark _ ?_; (try generalize Array.size (World.heap (G.w _)) = bk); (try dsimp only [List.set_cons_zero, List.set_cons_succ]); (try clear g); intro g)
        refine (CK2.out _ (G.sl g (by simp) H2.out)).mono ?_
        rintro e w1 ⟨rfl, hb⟩
        obtain ⟨g1, rfl⟩ := G.call_ex _ hb
        clear hb
        (try clear g)
        revert g1
        intro g
        go_wp2_with (with_reducible refine G.any_mark _ ?_; (try generalize Array.size (World.heap (G.w _)) = bk); (try dsimp only [List.set_cons_zero, List.set_cons_succ]); (try clear g); intro g)
        go_ret
        exact ⟨rfl, G.below _⟩
      · rw [if_neg k1]
        have k3 : ((n2 : Int) == 0) = false := by rw [beq_eq_false_iff_ne]; omega
        by_cases hz : s = true ∧ v1 = 0
        · rw [if_pos (.inl hz)]
          obtain ⟨rfl, hz0⟩ := hz
          rcases z1 with ⟨k4, k5⟩ | ⟨k4, k5⟩
          · clear k4 hz0
            subst k5
            go_enter Tryz.func23, Tryz.ntmps23
            go_wp2_with (with_reducible refine G.any_mark _ ?_; (try generalize Array.size (World.heap (G.w _)) = bk); (try dsimp only [List.set_cons_zero, List.set_cons_succ]); (try clear g); intro g)
            refine (CK1.out _ (G.sl g (by simp) H1.out)).mono ?_
            rintro e w1 ⟨rfl, hb⟩
            obtain ⟨g1, rfl⟩ := G.call_ex _ hb
            clear hb
            (try clear g)
            revert g1
            intro g
            go_wp2_with (with_reducible refine G.any_mark _ ?_; (try generalize Array.size (World.heap (G.w _)) = bk); (try dsimp only [List.set_cons_zero, List.set_cons_succ]); (try clear g); intro g)
            refine (CK2.out _ (G.sl g (by simp) H2.out)).mono ?_
            rintro e w1 ⟨rfl, hb⟩
            obtain ⟨g1, rfl⟩ := G.call_ex _ hb
            clear hb
            (try clear g)
            revert g1
            intro g
            go_wp2_with (with_reducible refine G.any_mark _ ?_; (try generalize Array.size (World.heap (G.w _)) = bk); (try dsimp only [List.set_cons_zero, List.set_cons_succ]); (try clear g); intro g)
            go_ret
            exact ⟨rfl, G.below _⟩
          · exact absurd hz0 k4
        · have k6 : s = true → ((n1 : Int) == 0) = false := by
            intro hs
            rcases z1 with ⟨k4, k5⟩ | ⟨k4, k5⟩
            · exact absurd ⟨hs, k4⟩ hz
            · rw [beq_eq_false_iff_ne]; omega
          have hor : ((s = true ∧ v1 = 0) ∨ Nat.gcd v1 v2 ≠ 1) ↔ Nat.gcd v1 v2 ≠ 1 := ⟨fun h => h.elim (fun h => absurd h hz) id, .inr⟩
          simp only [hor]
          clear hor hz z1 k1 k2
          obtain ⟨bg, hbg⟩ : ∃ b, decide (Nat.gcd v1 v2 = 1) = b := ⟨_, rfl⟩
          have hfin : (if Nat.gcd v1 v2 ≠ 1 then (3 : Int) else 0) = if bg = true then 0 else 3 := by
            rw [← hbg]
            by_cases h : Nat.gcd v1 v2 = 1
            · rw [if_neg (by simpa using h), if_pos (by simpa using h)]
            · rw [if_pos h, if_neg (by simpa using h)]
          rw [hfin]
          rw [hbg] at CU
          clear hfin hbg
          cases s
          all_goals
            (try have k7 := k6 rfl)
            clear k6
            go_enter Tryz.func23, Tryz.ntmps23
            go_wp2_with (with_reducible refine G.any_mark _ ?_; (try generalize Array.size (World.heap (G.w _)) = bk); (try dsimp only [List.set_cons_zero, List.set_cons_succ]); (try clear g); intro g)
            refine (CK1.out _ (G.sl g (by simp) H1.out)).mono ?_
            rintro e w1 ⟨rfl, hb⟩
            obtain ⟨g1, rfl⟩ := G.call_ex _ hb
            clear hb
            (try clear g)
            revert g1
            intro g
            go_wp2_with (with_reducible refine G.any_mark _ ?_; (try generalize Array.size (World.heap (G.w _)) = bk); (try dsimp only [List.set_cons_zero, List.set_cons_succ]); (try clear g); intro g)
            refine (CK2.out _ (G.sl g (by simp) H2.out)).mono ?_
            rintro e w1 ⟨rfl, hb⟩
            obtain ⟨g1, rfl⟩ := G.call_ex _ hb
            clear hb
            (try clear g)
            revert g1
            intro g
            go_wp2_with (with_reducible refine G.any_mark _ ?_; (try generalize Array.size (World.heap (G.w _)) = bk); (try dsimp only [List.set_cons_zero, List.set_cons_succ]); (try clear g); intro g)
            refine (CG.out (g.fr (heapOf w)) _ (g.fr_sub (by simp)) (g.fr_sl (by simp) (Frag.over_self _ _) H1.out) (g.fr_sl (by simp) (Frag.over_self _ _) H2.out)).mono ?_
            rintro e w1 ⟨Ag, cg, Fg, rfl, hsg, hng⟩
            obtain ⟨g1, rfl, hov⟩ := g.newor_ex hng
            clear hng
            (try clear g)
            revert g1
            intro g
            go_wp2_with (with_reducible refine G.any_mark _ ?_; (try generalize Array.size (World.heap (G.w _)) = bk); (try dsimp only [List.set_cons_zero, List.set_cons_succ]); (try clear g); intro g)
            refine (CU.out Ag cg _ (G.sl g (by simp) hsg)).mono ?_
            rintro e w1 ⟨rfl, rfl⟩
            cases bg
            all_goals
              go_wp2_with (with_reducible refine G.any_mark _ ?_; (try generalize Array.size (World.heap (G.w _)) = bk); (try dsimp only [List.set_cons_zero, List.set_cons_succ]); (try clear g); intro g)
              go_ret
              exact ⟨rfl, G.below _⟩
    · have hp := chk_pos ld
      have hrc : rchk s ln ld = chk ld := by unfold rchk; rw [if_neg (by simpa using hx1), if_pos hx2]
      rw [hrc]
      rw [hx1] at CK1
      clear hrc hx1 h1 h2
      generalize ln.length = n1 at *
      generalize ld.length = n2 at *
      generalize chk ld = x2 at *
      rcases hp with h | h | h
      · exact absurd h hx2
      all_goals
        subst h
        clear hx2
        go_enter Tryz.func23, Tryz.ntmps23
        go_wp2_with (with_reducible refine G.any_mark _ ?_; (try generalize Array.size (World.heap (G.w _)) = bk); (try dsimp only [List.set_cons_zero, List.set_cons_succ]); (try clear g); intro g)
        refine (CK1.out _ (G.sl g (by simp) H1.out)).mono ?_
        rintro e w1 ⟨rfl, hb⟩
        obtain ⟨g1, rfl⟩ := G.call_ex _ hb
        clear hb
        (try clear g)
        revert g1
        intro g
        go_wp2_with (with_reducible refine G.any_mark _ ?_; (try generalize Array.size (World.heap (G.w _)) = bk); (try dsimp only [List.set_cons_zero, List.set_cons_succ]); (try clear g); intro g)
        refine (CK2.out _ (G.sl g (by simp) H2.out)).mono ?_
        rintro e w1 ⟨rfl, hb⟩
        obtain ⟨g1, rfl⟩ := G.call_ex _ hb
        clear hb
        (try clear g)
        revert g1
        intro g
        go_wp2_with (with_reducible refine G.any_mark _ ?_; (try generalize Array.size (World.heap (G.w _)) = bk); (try dsimp only [List.set_cons_zero, List.set_cons_succ]); (try clear g); intro g)
        go_ret
        exact ⟨rfl, G.below _⟩
  · have hp := chk_pos ln
    have hrc : rchk s ln ld = chk ln := by unfold rchk; rw [if_pos hx1]
    rw [hrc]
    clear hrc h1 h2
    generalize ln.length = n1 at *
    generalize ld.length = n2 at *
    generalize chk ln = x1 at *
    rcases hp with h | h | h
    · exact absurd h hx1
    all_goals
      subst h
      clear hx1
      go_enter Tryz.func23, Tryz.ntmps23
      go_wp2_with (with_reducible refine G.any_mark _ ?_; (try generalize Array.size (World.heap (G.w _)) = bk); (try dsimp only [List.set_cons_zero, List.set_cons_succ]); (try clear g); intro g)
      refine (CK1.out _ (G.sl g (by simp) H1.out)).mono ?_
      rintro e w1 ⟨rfl, hb⟩
      obtain ⟨g1, rfl⟩ := G.call_ex _ hb
      clear hb
      (try clear g)
      revert g1
      intro g
      go_wp2_with (with_reducible refine G.any_mark _ ?_; (try generalize Array.size (World.heap (G.w _)) = bk); (try dsimp only [List.set_cons_zero, List.set_cons_succ]); (try clear g); intro g)
      go_ret
      exact ⟨rfl, G.below _⟩
/-- Fits of numbers of few limbs, and of many. -/
theorem rFits_ok (s : Bool) (A B : Option Addr) (c k n d : Nat) (hn : n ≤ 256) (hd : d ≤ 256) (w : World) :
    Calls Tryz.prog 47 #[.agg #[.bool s, .slice A n c, .slice B d k]] w fun e w' => e = .returned (.tuple #[.agg #[.bool s, .slice A n c, .slice B d k], .int .i64 0]) ∧ Below w.heap.size w w' := by
  refine calls_b fun g => ?_
  have h1 : ¬ (256 : Int) < (n : Int) := by omega
  have h2 : ¬ (256 : Int) < (d : Int) := by omega
  clear hn hd
  go_enter Tryz.func47, Tryz.ntmps47
  go_wp2_with (with_reducible refine G.any_mark _ ?_; (try generalize Array.size (World.heap (G.w _)) = bk); (try dsimp only [List.set_cons_zero, List.set_cons_succ]); (try clear g); intro g)
  refine bodyPost_ret (v := .tuple #[.agg #[.bool s, .slice A n c, .slice B d k], .int .i64 0]) (by simp [results, Tryz.results47, go_sem]) rfl ?_
  exact ⟨rfl, G.below _⟩
theorem rFits_over (s : Bool) (A B : Option Addr) (c k n d : Nat) (hn : ¬ (n ≤ 256 ∧ d ≤ 256)) (w : World) :
    Calls Tryz.prog 47 #[.agg #[.bool s, .slice A n c, .slice B d k]] w fun e w' => e = .returned (.tuple #[.agg #[.bool false, .slice none 0 0, .slice none 0 0], .int .i64 5]) ∧ Below w.heap.size w w' := by
  refine calls_b fun g => ?_
  by_cases hn2 : n ≤ 256
  · have h1 : ¬ (256 : Int) < (n : Int) := by omega
    have h2 : (256 : Int) < (d : Int) := by omega
    clear hn hn2
    go_enter Tryz.func47, Tryz.ntmps47
    go_wp2_with (with_reducible refine G.any_mark _ ?_; (try generalize Array.size (World.heap (G.w _)) = bk); (try dsimp only [List.set_cons_zero, List.set_cons_succ]); (try clear g); intro g)
    refine bodyPost_ret (v := .tuple #[.agg #[.bool false, .slice none 0 0, .slice none 0 0], .int .i64 5]) (by simp [results, Tryz.results47, go_sem]) rfl ?_
    exact ⟨rfl, G.below _⟩
  · have h1 : (256 : Int) < (n : Int) := by omega
    clear hn hn2
    go_enter Tryz.func47, Tryz.ntmps47
    go_wp2_with (with_reducible refine G.any_mark _ ?_; (try generalize Array.size (World.heap (G.w _)) = bk); (try dsimp only [List.set_cons_zero, List.set_cons_succ]); (try clear g); intro g)
    refine bodyPost_ret (v := .tuple #[.agg #[.bool false, .slice none 0 0, .slice none 0 0], .int .i64 5]) (by simp [results, Tryz.results47, go_sem]) rfl ?_
    exact ⟨rfl, G.below _⟩
end Go.Proofs.YtjdnpkicdmapnaaGreatDoor
namespace Go.Proofs.YtjdnpkicdmapnaaGreatDoor
open Go.RowKit GW NL
theorem outX_bd {x : Rat} (h : Bd 8192 x) : outX x = (rneg x, rn x, x.den, 0) := by
  unfold outX outP; exact if_pos h
/-- Minus and Plus by the numbers of core's Rat. -/
theorem rMinus_x (x : Rat) (A1 A2 : Option Addr) (c1 c2 : Nat) (w : World) (h1 : SlW w A1 c1 (limbs (rn x))) (h2 : SlW w A2 c2 (limbs x.den)) (hl1 : (limbs (rn x)).length ≤ 10000000) (hl2 : (limbs x.den).length ≤ 10000000) :
    Calls Tryz.prog 43 #[.agg #[.bool (rneg x), .slice A1 (limbs (rn x)).length c1, .slice A2 (limbs x.den).length c2]] w (RNf (-x) w) := by
  unfold RNf
  rw [rneg_neg, rn_neg, Rat.neg_den]
  exact rMinus_any (rneg x) A1 A2 c1 c2 (rn x) x.den w h1 h2 hl1 hl2
theorem rPlus_x (x y : Rat) (A1 B1 A2 B2 : Option Addr) (c1 k1 c2 k2 : Nat) (w : World) (h1 : SlW w A1 c1 (limbs (rn x))) (j1 : SlW w B1 k1 (limbs x.den)) (h2 : SlW w A2 c2 (limbs (rn y))) (j2 : SlW w B2 k2 (limbs y.den))
    (l1 : (limbs (rn x)).length ≤ 1000000) (m1 : (limbs x.den).length ≤ 1000000) (l2 : (limbs (rn y)).length ≤ 1000000) (m2 : (limbs y.den).length ≤ 1000000) :
    Calls Tryz.prog 48 #[.agg #[.bool (rneg x), .slice A1 (limbs (rn x)).length c1, .slice B1 (limbs x.den).length k1], .agg #[.bool (rneg y), .slice A2 (limbs (rn y)).length c2, .slice B2 (limbs y.den).length k2]] w (RNf (x + y) w) := by
  have := rPlus_any (rneg x) (rneg y) A1 B1 A2 B2 c1 k1 c2 k2 (rn x) x.den (rn y) y.den w h1 j1 h2 j2 l1 m1 l2 m2 x.den_nz y.den_nz
  rwa [frac_self, frac_self] at this
end Go.Proofs.YtjdnpkicdmapnaaGreatDoor
namespace Go.Proofs.YtjdnpkicdmapnaaGreatDoor
open Go.RowKit GW NL
theorem or_u64_comm (x y : Int) : bits .or .u64 x y = bits .or .u64 y x := by
  show IntKind.u64.wrap ((BitVec.ofInt 64 x ||| BitVec.ofInt 64 y).toNat : Int) = IntKind.u64.wrap ((BitVec.ofInt 64 y ||| BitVec.ofInt 64 x).toNat : Int)
  rw [BitVec.or_comm]
theorem or_u64_add (x y k : Nat) (hk : k ≤ 63) (hx : x < 2 ^ k) (hy : y + x < 18446744073709551616) (hd : y % 2 ^ k = 0) : bits .or .u64 (x : Int) (y : Int) = ((y + x : Nat) : Int) := by
  have lt : 2 ^ k ≤ 2 ^ 63 := Nat.pow_le_pow_right (by omega) hk
  have e : (BitVec.ofInt 64 (x : Int) ||| BitVec.ofInt 64 (y : Int)).toNat = y + x := by
    rw [BitVec.toNat_or, BitVec.ofInt_natCast, BitVec.ofInt_natCast, BitVec.toNat_ofNat, BitVec.toNat_ofNat, Nat.mod_eq_of_lt (by omega), Nat.mod_eq_of_lt (by omega)]
    have hm : y = 2 ^ k * (y / 2 ^ k) := by have := Nat.div_add_mod y (2 ^ k); omega
    rw [Nat.or_comm]
    conv => lhs; rw [hm]
    rw [← Nat.two_pow_add_eq_or_of_lt hx]
    omega
  show IntKind.u64.wrap ((BitVec.ofInt 64 (x : Int) ||| BitVec.ofInt 64 (y : Int)).toNat : Int) = _
  rw [e, IntKind.wrap_u64]
  omega
/-- what Int answers -/
def intX (s : Bool) (l m : List Nat) : Int × Int := if rchk s l m ≠ 0 then (0, rchk s l m) else if val m ≠ 1 then (0, 18) else if 9223372036854775808 < val l ∨ (val l = 9223372036854775808 ∧ s = false) then (0, 5) else ((if s = true then -(val l : Int) else (val l : Int)), 0)
set_option maxRecDepth 20000 in
set_option maxHeartbeats 4000000 in
theorem qInt_any (s : Bool) (A B : Option Addr) (c k : Nat) (l m : List Nat) (w : World) (h1 : SlW w A c l) (h2 : SlW w B k m) (hT : Tab w) :
    Calls Tryz.prog 37 #[.agg #[.bool s, .slice A l.length c, .slice B m.length k]] w fun e w' => e = .returned (.tuple #[.int .i64 (intX s l m).1, .int .i64 (intX s l m).2]) ∧ Below w.heap.size w w' := by
  refine calls_b fun g => ?_
  have CK := Lib.hid (fun w a b t => rcheck s A B c k l m w a b t)
  obtain ⟨RR, hRR⟩ : ∃ R, intX s l m = R := ⟨_, rfl⟩
  rw [hRR]
  unfold intX at hRR
  by_cases hx : rchk s l m = 0
  · rw [hx] at CK
    rw [if_neg (by omega)] at hRR
    obtain ⟨e1, e2, e3, _, _, e6, e7⟩ := rchk_ok h1.ok h2.ok hx
    have CO := Lib.hid (fun w => of_any s A B c k l.length m.length w)
    have CU := Lib.hid (fun w h => lunit_any B k (val m) w h)
    rw [← e2] at CU
    by_cases hd : val m = 1
    · rw [if_neg (by omega)] at hRR
      rw [decide_eq_true hd] at CU
      have CL0 := Lib.hid (fun w h => lat_any A c l 0 w h (by omega))
      have CL1 := Lib.hid (fun w h => lat_any A c l 1 w h (by omega))
      rw [show ((0 : Nat) : Int) = 0 from rfl] at CL0
      rw [show ((1 : Nat) : Int) = 1 from rfl] at CL1
      have g0 := getD_val l h1.ok 0
      have g1 := getD_val l h1.ok 1
      rw [Nat.pow_zero, Nat.div_one] at g0
      rw [Nat.pow_one] at g1
      have hlen : l.length ≤ 2 ↔ val l < 18446744073709551616 := by
        rw [show l.length = (limbs (val l)).length by rw [← e1], limbs_len]
      generalize l.getD 0 0 = x at *
      generalize l.getD 1 0 = y at *
      generalize val l = V at *
      have H1 := Lib.hid h1
      have H2 := Lib.hid h2
      have HT := Lib.hid hT
      clear h1 h2 hT hx e1 e2 e3 e6 e7 hd
      generalize l.length = n at *
      generalize m.length = d at *
      have hx9 : x < 4294967296 := by omega
      have hy9 : y < 4294967296 := by omega
      obtain ⟨M, hM⟩ : ∃ M, V % 18446744073709551616 = M := ⟨_, rfl⟩
      have hyM : y * 4294967296 + x = M := by omega
      have hor : bits .or .u64 ((y : Int) * 4294967296) (x : Int) = (M : Int) := by
        rw [show (y : Int) * 4294967296 = ((y * 4294967296 : Nat) : Int) by omega, or_u64_comm, or_u64_add _ _ 32 (by omega) (by omega) (by omega) (by omega)]
        omega
      have hw1 : IntKind.u64.wrap (y : Int) = (y : Int) := by rw [IntKind.wrap_u64]; omega
      have hw2 : IntKind.u64.wrap (x : Int) = (x : Int) := by rw [IntKind.wrap_u64]; omega
      have hw3 : IntKind.u64.wrap ((y : Int) * 4294967296) = (y : Int) * 4294967296 := by rw [IntKind.wrap_u64]; omega
      have HV := Lib.hid (And.intro hlen (And.intro hM hRR))
      clear hlen hM hRR g0 g1
      go_enter Tryz.func37, Tryz.ntmps37
      go_wp2_with (with_reducible refine G.any_mark _ ?_; (try generalize Array.size (World.heap (G.w _)) = bk); (try dsimp only [List.set_cons_zero, List.set_cons_succ]); (try clear g); intro g)
      refine (CK.out _ (G.sl g (by simp) H1.out) (G.sl g (by simp) H2.out) (G.tab g HT.out)).mono ?_
      rintro e w1 ⟨rfl, hb⟩
      obtain ⟨g1, rfl⟩ := G.call_ex _ hb
      clear hb
      (try clear g)
      revert g1
      intro g
      go_wp2_with (with_reducible refine G.any_mark _ ?_; (try generalize Array.size (World.heap (G.w _)) = bk); (try dsimp only [List.set_cons_zero, List.set_cons_succ]); (try clear g); intro g)
      refine (CO.out _).mono ?_
      rintro e w1 ⟨rfl, hb⟩
      obtain ⟨g1, rfl⟩ := G.call_ex _ hb
      clear hb
      (try clear g)
      revert g1
      intro g
      go_wp2_with (with_reducible refine G.any_mark _ ?_; (try generalize Array.size (World.heap (G.w _)) = bk); (try dsimp only [List.set_cons_zero, List.set_cons_succ]); (try clear g); intro g)
      (try (refine cmark _ ?_; (try dsimp only [List.set_cons_zero, List.set_cons_succ]); (try clear g); intro g))
      refine (CU.out _ (G.sl g (by simp) H2.out)).mono ?_
      rintro e w1 ⟨rfl, rfl⟩
      go_wp2_with (with_reducible refine G.any_mark _ ?_; (try generalize Array.size (World.heap (G.w _)) = bk); (try dsimp only [List.set_cons_zero, List.set_cons_succ]); (try clear g); intro g)
      go_region_held3 (G.heldN g [true, true]) (simp [G.heldN, HeldN, go_sem]) (first
        | (go_at_call 82; (with_reducible refine (CL1.out _ ?_).mono ?_); (· exact G.sl _ (by simp) H1.out); rintro e w1 ⟨rfl, rfl⟩)
        | (go_at_call 82; (with_reducible refine (CL0.out _ ?_).mono ?_); (· exact G.sl _ (by simp) H1.out); rintro e w1 ⟨rfl, rfl⟩))
      all_goals obtain ⟨hlen, hM, hRR⟩ := HV.out
      all_goals clear HV hw1 hw2 hw3 hor hyM hx9 hy9 CL0 CL1 CU CO CK H1 H2 HT
      all_goals obtain ⟨q, hq⟩ : ∃ q : Int, (M : Int) = q := ⟨_, rfl⟩
      all_goals rw [hq]
      all_goals by_cases h2 : n ≤ 2
      all_goals (try have hV' : ¬ V < 18446744073709551616 := fun h => h2 (hlen.2 h))
      · have hV := hlen.1 h2
        rw [Nat.mod_eq_of_lt hV] at hM
        subst hM
        have h2i : ¬ ((2 : Int) < (n : Int)) := by omega
        clear hlen hV h2
        rcases Nat.lt_trichotomy V 9223372036854775808 with h3 | h3 | h3
        · rw [if_neg (by omega)] at hRR
          have h4 : ¬ ((9223372036854775808 : Int) < q) := by omega
          have h5 : (q == 9223372036854775808) = false := by rw [beq_eq_false_iff_ne]; omega
          have h8 : IntKind.i64.wrap q = q := by rw [IntKind.wrap_i64]; omega
          obtain ⟨N, hN⟩ : ∃ N, IntKind.u64.wrap (-q) = N := ⟨_, rfl⟩
          obtain ⟨r, hr⟩ : ∃ r, -q = r := ⟨_, rfl⟩
          have h9 : IntKind.i64.wrap N = r := by rw [← hN, IntKind.wrap_u64, IntKind.wrap_i64]; omega
          rw [hq, hr] at hRR
          clear hq h3 
          rcases s with _ | _
          · have HRR := Lib.hid hRR
            clear hRR hr hN h9
            go_wp2_with (with_reducible refine G.any_mark _ ?_; (try generalize Array.size (World.heap (G.w _)) = bk); (try dsimp only [List.set_cons_zero, List.set_cons_succ]); (try clear g); intro g)
            go_ret2
            rw [← HRR.out]
            exact ⟨rfl, G.below _⟩
          · have HRR := Lib.hid hRR
            have HR := Lib.hid hr
            clear hRR hr h8
            go_wp2_with (with_reducible refine G.any_mark _ ?_; (try generalize Array.size (World.heap (G.w _)) = bk); (try dsimp only [List.set_cons_zero, List.set_cons_succ]); (try clear g); intro g)
            go_ret2
            rw [← HRR.out]
            exact ⟨rfl, G.below _⟩
        · subst h3
          have hq' : q = 9223372036854775808 := by omega
          subst hq'
          have h8 : IntKind.u64.wrap (-9223372036854775808) = 9223372036854775808 := by rw [IntKind.wrap_u64]; omega
          have h9 : IntKind.i64.wrap 9223372036854775808 = -9223372036854775808 := by rw [IntKind.wrap_i64]; omega
          clear hq
          rcases s with _ | _
          · rw [if_pos (.inr ⟨rfl, rfl⟩)] at hRR
            have HRR := Lib.hid hRR
            clear hRR
            go_wp2_with (with_reducible refine G.any_mark _ ?_; (try generalize Array.size (World.heap (G.w _)) = bk); (try dsimp only [List.set_cons_zero, List.set_cons_succ]); (try clear g); intro g)
            go_ret2
            rw [← HRR.out]
            exact ⟨rfl, G.below _⟩
          · rw [if_neg (by simp), if_pos rfl] at hRR
            have HRR := Lib.hid hRR
            clear hRR
            go_wp2_with (with_reducible refine G.any_mark _ ?_; (try generalize Array.size (World.heap (G.w _)) = bk); (try dsimp only [List.set_cons_zero, List.set_cons_succ]); (try clear g); intro g)
            go_ret2
            rw [← HRR.out]
            exact ⟨rfl, G.below _⟩
        · rw [if_pos (.inl h3)] at hRR
          have h4 : (9223372036854775808 : Int) < q := by omega
          have HRR := Lib.hid hRR
          clear hRR hq h3
          go_wp2_with (with_reducible refine G.any_mark _ ?_; (try generalize Array.size (World.heap (G.w _)) = bk); (try dsimp only [List.set_cons_zero, List.set_cons_succ]); (try clear g); intro g)
          go_ret2
          rw [← HRR.out]
          exact ⟨rfl, G.below _⟩
      · rw [if_pos (.inl (by omega))] at hRR
        have h2i : (2 : Int) < (n : Int) := by omega
        have HRR := Lib.hid hRR
        clear hRR hq hlen hM hV' h2
        go_wp2_with (with_reducible refine G.any_mark _ ?_; (try generalize Array.size (World.heap (G.w _)) = bk); (try dsimp only [List.set_cons_zero, List.set_cons_succ]); (try clear g); intro g)
        go_ret2
        rw [← HRR.out]
        exact ⟨rfl, G.below _⟩
    · rw [if_pos hd] at hRR
      rw [decide_eq_false hd] at CU
      have HRR := Lib.hid hRR
      have H1 := Lib.hid h1
      have H2 := Lib.hid h2
      have HT := Lib.hid hT
      clear h1 h2 hT hx e1 e2 e3 e6 e7 hd hRR
      generalize l.length = n at *
      generalize m.length = d at *
      go_enter Tryz.func37, Tryz.ntmps37
      go_wp2_with (with_reducible refine G.any_mark _ ?_; (try generalize Array.size (World.heap (G.w _)) = bk); (try dsimp only [List.set_cons_zero, List.set_cons_succ]); (try clear g); intro g)
      refine (CK.out _ (G.sl g (by simp) H1.out) (G.sl g (by simp) H2.out) (G.tab g HT.out)).mono ?_
      rintro e w1 ⟨rfl, hb⟩
      obtain ⟨g1, rfl⟩ := G.call_ex _ hb
      clear hb
      (try clear g)
      revert g1
      intro g
      go_wp2_with (with_reducible refine G.any_mark _ ?_; (try generalize Array.size (World.heap (G.w _)) = bk); (try dsimp only [List.set_cons_zero, List.set_cons_succ]); (try clear g); intro g)
      refine (CO.out _).mono ?_
      rintro e w1 ⟨rfl, hb⟩
      obtain ⟨g1, rfl⟩ := G.call_ex _ hb
      clear hb
      (try clear g)
      revert g1
      intro g
      go_wp2_with (with_reducible refine G.any_mark _ ?_; (try generalize Array.size (World.heap (G.w _)) = bk); (try dsimp only [List.set_cons_zero, List.set_cons_succ]); (try clear g); intro g)
      (try (refine cmark _ ?_; (try dsimp only [List.set_cons_zero, List.set_cons_succ]); (try clear g); intro g))
      refine (CU.out _ (G.sl g (by simp) H2.out)).mono ?_
      rintro e w1 ⟨rfl, rfl⟩
      go_wp2_with (with_reducible refine G.any_mark _ ?_; (try generalize Array.size (World.heap (G.w _)) = bk); (try dsimp only [List.set_cons_zero, List.set_cons_succ]); (try clear g); intro g)
      go_ret2
      rw [← HRR.out]
      exact ⟨rfl, G.below _⟩
  · rw [if_pos hx] at hRR
    have hx' : (rchk s l m == 0) = false := by simpa using hx
    have hx'' : (rchk s l m != 0) = true := by simpa using hx
    have HRR := Lib.hid hRR
    have H1 := Lib.hid h1
    have H2 := Lib.hid h2
    have HT := Lib.hid hT
    clear h1 h2 hT hx hRR
    generalize rchk s l m = r at *
    generalize l.length = n at *
    generalize m.length = d at *
    go_enter Tryz.func37, Tryz.ntmps37
    go_wp2_with (with_reducible refine G.any_mark _ ?_; (try generalize Array.size (World.heap (G.w _)) = bk); (try dsimp only [List.set_cons_zero, List.set_cons_succ]); (try clear g); intro g)
    refine (CK.out _ (G.sl g (by simp) H1.out) (G.sl g (by simp) H2.out) (G.tab g HT.out)).mono ?_
    rintro e w1 ⟨rfl, hb⟩
    obtain ⟨g1, rfl⟩ := G.call_ex _ hb
    clear hb
    (try clear g)
    revert g1
    intro g
    go_wp2_with (with_reducible refine G.any_mark _ ?_; (try generalize Array.size (World.heap (G.w _)) = bk); (try dsimp only [List.set_cons_zero, List.set_cons_succ]); (try clear g); intro g)
    go_ret2
    rw [← HRR.out]
    exact ⟨rfl, G.below _⟩
end Go.Proofs.YtjdnpkicdmapnaaGreatDoor
namespace Go.Proofs.YtjdnpkicdmapnaaGreatDoor
open Go.RowKit GW NL
theorem limbs_bd {k j : Nat} {v : Nat} (h : v < 2 ^ k) (hk : k ≤ 32 * j) : (limbs v).length ≤ j := by
  refine (limbs_len _ _).2 (Nat.lt_of_lt_of_le h ?_)
  rw [show (4294967296 : Nat) = 2 ^ 32 from rfl, ← Nat.pow_mul]
  exact Nat.pow_le_pow_right (by decide) hk
theorem half_parts : rneg (1 / 2 : Rat) = false ∧ rn (1 / 2 : Rat) = 1 ∧ (1 / 2 : Rat).den = 2 := by
  refine ⟨?_, ?_, ?_⟩ <;> decide +kernel
/-- Plus of one half, as Near calls it. -/
theorem rPlus_half (x : Rat) (A1 B1 A2 B2 : Option Addr) (c1 k1 c2 k2 : Nat) (w : World) (h1 : SlW w A1 c1 (limbs (rn x))) (j1 : SlW w B1 k1 (limbs x.den)) (h2 : SlW w A2 c2 (limbs 1)) (j2 : SlW w B2 k2 (limbs 2))
    (l1 : (limbs (rn x)).length ≤ 1000000) (m1 : (limbs x.den).length ≤ 1000000) :
    Calls Tryz.prog 48 #[.agg #[.bool (rneg x), .slice A1 (limbs (rn x)).length c1, .slice B1 (limbs x.den).length k1], .agg #[.bool false, .slice A2 (limbs 1).length c2, .slice B2 1 k2]] w (RNf (x + 1 / 2) w) := by
  obtain ⟨e1, e2, e3⟩ := half_parts
  have := rPlus_x x (1 / 2) A1 B1 A2 B2 c1 k1 c2 k2 w h1 j1 (by rw [e2]; exact h2) (by rw [e3]; exact j2) l1 m1 (by rw [e2, limbs_one (by decide) (by decide)]; decide) (by rw [e3, limbs_one (by decide) (by decide)]; decide)
  rw [e1, e2, e3, limbs_one (n := 2) (by decide) (by decide)] at this
  exact this
/-- parts that are valid are those of a number -/
theorem rchk_val {s : Bool} {l m : List Nat} (hl : Ok l) (hm : Ok m) (h : rchk s l m = 0) : ∃ x : Rat, s = rneg x ∧ l = limbs (rn x) ∧ m = limbs x.den ∧ Bd 8192 x := by
  unfold rchk at h
  by_cases h1 : chk l = 0
  · rw [if_neg (by simpa using h1)] at h
    by_cases h2 : chk m = 0
    · rw [if_neg (by simpa using h2)] at h
      by_cases h3 : val m = 0
      · rw [if_pos h3] at h; exact absurd h (by decide)
      · rw [if_neg h3] at h
        by_cases h4 : (s = true ∧ val l = 0) ∨ Nat.gcd (val l) (val m) ≠ 1
        · rw [if_pos h4] at h; exact absurd h (by decide)
        · have hg : Nat.gcd (val l) (val m) = 1 := Decidable.byContradiction fun h => h4 (.inr h)
          obtain ⟨p1, p2, p3⟩ := frac_parts (s := s) h3 hg (fun hs h0 => h4 (.inl ⟨hs, h0⟩))
          obtain ⟨e1, b1, _⟩ := chk_ok hl h1
          obtain ⟨e2, b2, _⟩ := chk_ok hm h2
          exact ⟨frac s (val l) (val m), p1.symm, by rw [p2]; exact e1, by rw [p3]; exact e2, by rw [p2]; exact b1, by rw [p3]; exact b2⟩
    · rw [if_pos h2] at h; exact absurd h h2
  · rw [if_pos h1] at h; exact absurd h h1
theorem rchk_val0 {x : Rat} (h : Bd 8192 x) : rchk (rneg x) (limbs (rn x)) (limbs x.den) = 0 := by
  unfold rchk
  rw [chk_limbs h.1, chk_limbs h.2, val_limbs, val_limbs, if_neg (by decide), if_neg (by decide), if_neg x.den_nz, if_neg]
  rintro (⟨h1, h2⟩ | h1)
  · exact rneg_ne h1 h2
  · exact h1 (rgcd x)
theorem rchk_err (s : Bool) (l m : List Nat) : rchk s l m = 0 ∨ rchk s l m = 3 ∨ rchk s l m = 4 ∨ rchk s l m = 6 := by
  have p1 := chk_pos l
  have p2 := chk_pos m
  unfold rchk
  split
  · omega
  · split
    · omega
    · split
      · simp
      · split <;> simp
end Go.Proofs.YtjdnpkicdmapnaaGreatDoor
namespace Go.Proofs.YtjdnpkicdmapnaaGreatDoor
open Go.RowKit GW NL
set_option maxRecDepth 20000 in
set_option maxHeartbeats 4000000 in
theorem rTimes4_any (s1 s2 : Bool) (A1 B1 A2 B2 : Option Addr) (c1 k1 c2 k2 n1 d1 n2 d2 : Nat) (w : World) (h1 : SlW w A1 c1 (limbs n1)) (j1 : SlW w B1 k1 (limbs d1)) (h2 : SlW w A2 c2 (limbs n2)) (j2 : SlW w B2 k2 (limbs d2))
    (l1 : (limbs n1).length ≤ 1000000) (m1 : (limbs d1).length ≤ 1000000) (l2 : (limbs n2).length ≤ 1000000) (m2 : (limbs d2).length ≤ 1000000) (z1 : d1 ≠ 0) (z2 : d2 ≠ 0) :
    Calls Tryz.prog 52 #[.agg #[.bool s1, .slice A1 (limbs n1).length c1, .slice B1 (limbs d1).length k1], .agg #[.bool s2, .slice A2 (limbs n2).length c2, .slice B2 (limbs d2).length k2]] w (RNf (frac (s1 != s2) (n1 * n2) (d1 * d2)) w) := by
  refine calls_b fun g => ?_
  have C1 := Lib.hid (fun w a b => rTimes_any A1 A2 c1 c2 n1 n2 w a b (by omega) (by omega))
  have C2 := Lib.hid (fun w a b => rTimes_any B1 B2 k1 k2 d1 d2 w a b (by omega) (by omega))
  have q1 := limbs_mul_len n1 n2
  have q2 := limbs_mul_len d1 d2
  have hd : d1 * d2 ≠ 0 := Nat.mul_ne_zero z1 z2
  obtain ⟨s, hs⟩ : ∃ s, (s1 != s2) = s := ⟨_, rfl⟩
  rw [hs]
  have CL := Lib.hid (fun A1 A2 c1 c2 w h1 h2 => rLow_any s A1 A2 c1 c2 (n1 * n2) (d1 * d2) w h1 h2 (by omega) (by omega) hd)
  unfold RNat at C1 C2
  unfold RNf at CL ⊢
  generalize frac s (n1 * n2) (d1 * d2) = z at *
  clear hd z1 z2 q1 q2
  generalize hX : n1 * n2 = X at *
  generalize hD : d1 * d2 = D at *
  clear hX hD
  generalize (limbs n1).length = ln1 at *
  generalize (limbs d1).length = ld1 at *
  generalize (limbs n2).length = ln2 at *
  generalize (limbs d2).length = ld2 at *
  generalize rneg z = sz at *
  generalize (limbs (rn z)).length = lz at *
  generalize (limbs z.den).length = mz at *
  cases s1 <;> cases s2
  all_goals
    (first | obtain rfl : s = false := hs.symm | obtain rfl : s = true := hs.symm)
    clear hs
    go_enter Tryz.func52, Tryz.ntmps52
    go_wp2_with (with_reducible refine G.any_mark _ ?_; (try generalize Array.size (World.heap (G.w _)) = bk); (try dsimp only [List.set_cons_zero, List.set_cons_succ]); (try clear g); intro g)
    go_region_held3 (G.heldN g [false, true, true]) (simp [G.heldN, HeldN, go_sem]) (first
      | (go_at_call 88; (with_reducible refine (C1.out _ ?_ ?_).mono ?_); (· exact G.sl _ (by simp) h1); (· exact G.sl _ (by simp) h2); rintro e w1 ⟨X1, x1, P1, rfl, hx1, hn1⟩; obtain ⟨g1, rfl⟩ := G.new_ex _ hn1; clear hn1; (try clear g); revert g1; intro g)
      | (go_at_call 88; (with_reducible refine (C2.out _ ?_ ?_).mono ?_); (· exact G.sl _ (by simp) j1); (· exact G.sl _ (by simp) j2); rintro e w1 ⟨X2, x2, P2, rfl, hx2, hn2⟩; obtain ⟨g1, rfl⟩ := G.new_ex _ hn2; clear hn2; (try clear g); revert g1; intro g)
      | (go_at_call 74; (with_reducible refine (CL.out _ _ _ _ _ ?_ ?_).mono ?_); (· exact G.sl _ (by simp) hx1); (· exact G.sl _ (by simp) hx2); rintro e w1 ⟨Y1, y1, Q1, Y2, y2, Q2, rfl, hy1, hy2, hn1, hn2⟩; have ho1 := fun k o hk => Nat.le_trans (G.chg _).size (hn1.new k o hk); have ho2 := fun k o hk => Nat.le_trans (G.chg _).size (hn2.new k o hk); obtain ⟨g1, rfl⟩ := G.new2_ex _ hn1 hn2; clear hn1 hn2; (try clear g); revert g1; intro g))
    all_goals (first | ((try simp only [G.drew_eq, G.drewN_eq]); (refine G.any_mark _ ?_; (try clear g); intro g)) | skip)
    all_goals go_wp2_with (with_reducible refine G.any_mark _ ?_; (try generalize Array.size (World.heap (G.w _)) = bk); (try dsimp only [List.set_cons_zero, List.set_cons_succ]); (try clear g); intro g)
    all_goals refine bodyPost_ret (v := .agg #[.bool sz, .slice Y1 lz y1, .slice Y2 mz y2]) (by simp [results, Tryz.results52, go_sem]) rfl ?_
    all_goals exact ⟨Y1, y1, Q1, Y2, y2, Q2, rfl, hy1, hy2, G.pass _ (by simp) ho1, G.pass _ (by simp) ho2⟩
set_option maxRecDepth 20000 in
set_option maxHeartbeats 4000000 in
theorem rOver_any (s1 s2 : Bool) (A1 B1 A2 B2 : Option Addr) (c1 k1 c2 k2 n1 d1 n2 d2 : Nat) (w : World) (h1 : SlW w A1 c1 (limbs n1)) (j1 : SlW w B1 k1 (limbs d1)) (h2 : SlW w A2 c2 (limbs n2)) (j2 : SlW w B2 k2 (limbs d2))
    (l1 : (limbs n1).length ≤ 1000000) (m1 : (limbs d1).length ≤ 1000000) (l2 : (limbs n2).length ≤ 1000000) (m2 : (limbs d2).length ≤ 1000000) (z1 : d1 ≠ 0) (z2 : n2 ≠ 0) :
    Calls Tryz.prog 55 #[.agg #[.bool s1, .slice A1 (limbs n1).length c1, .slice B1 (limbs d1).length k1], .agg #[.bool s2, .slice A2 (limbs n2).length c2, .slice B2 (limbs d2).length k2]] w (RNf (frac (s1 != s2) (n1 * d2) (d1 * n2)) w) := by
  refine calls_b fun g => ?_
  have C1 := Lib.hid (fun w a b => rTimes_any A1 B2 c1 k2 n1 d2 w a b (by omega) (by omega))
  have C2 := Lib.hid (fun w a b => rTimes_any B1 A2 k1 c2 d1 n2 w a b (by omega) (by omega))
  have q1 := limbs_mul_len n1 d2
  have q2 := limbs_mul_len d1 n2
  have hd : d1 * n2 ≠ 0 := Nat.mul_ne_zero z1 z2
  obtain ⟨s, hs⟩ : ∃ s, (s1 != s2) = s := ⟨_, rfl⟩
  rw [hs]
  have CL := Lib.hid (fun A1 A2 c1 c2 w h1 h2 => rLow_any s A1 A2 c1 c2 (n1 * d2) (d1 * n2) w h1 h2 (by omega) (by omega) hd)
  unfold RNat at C1 C2
  unfold RNf at CL ⊢
  generalize frac s (n1 * d2) (d1 * n2) = z at *
  clear hd z1 z2 q1 q2
  generalize hX : n1 * d2 = X at *
  generalize hD : d1 * n2 = D at *
  clear hX hD
  generalize (limbs n1).length = ln1 at *
  generalize (limbs d1).length = ld1 at *
  generalize (limbs n2).length = ln2 at *
  generalize (limbs d2).length = ld2 at *
  generalize rneg z = sz at *
  generalize (limbs (rn z)).length = lz at *
  generalize (limbs z.den).length = mz at *
  cases s1 <;> cases s2
  all_goals
    (first | obtain rfl : s = false := hs.symm | obtain rfl : s = true := hs.symm)
    clear hs
    go_enter Tryz.func55, Tryz.ntmps55
    go_wp2_with (with_reducible refine G.any_mark _ ?_; (try generalize Array.size (World.heap (G.w _)) = bk); (try dsimp only [List.set_cons_zero, List.set_cons_succ]); (try clear g); intro g)
    go_region_held3 (G.heldN g [false, true, true]) (simp [G.heldN, HeldN, go_sem]) (first
      | (go_at_call 88; (with_reducible refine (C1.out _ ?_ ?_).mono ?_); (· exact G.sl _ (by simp) h1); (· exact G.sl _ (by simp) j2); rintro e w1 ⟨X1, x1, P1, rfl, hx1, hn1⟩; obtain ⟨g1, rfl⟩ := G.new_ex _ hn1; clear hn1; (try clear g); revert g1; intro g)
      | (go_at_call 88; (with_reducible refine (C2.out _ ?_ ?_).mono ?_); (· exact G.sl _ (by simp) j1); (· exact G.sl _ (by simp) h2); rintro e w1 ⟨X2, x2, P2, rfl, hx2, hn2⟩; obtain ⟨g1, rfl⟩ := G.new_ex _ hn2; clear hn2; (try clear g); revert g1; intro g)
      | (go_at_call 74; (with_reducible refine (CL.out _ _ _ _ _ ?_ ?_).mono ?_); (· exact G.sl _ (by simp) hx1); (· exact G.sl _ (by simp) hx2); rintro e w1 ⟨Y1, y1, Q1, Y2, y2, Q2, rfl, hy1, hy2, hn1, hn2⟩; have ho1 := fun k o hk => Nat.le_trans (G.chg _).size (hn1.new k o hk); have ho2 := fun k o hk => Nat.le_trans (G.chg _).size (hn2.new k o hk); obtain ⟨g1, rfl⟩ := G.new2_ex _ hn1 hn2; clear hn1 hn2; (try clear g); revert g1; intro g))
    all_goals (first | ((try simp only [G.drew_eq, G.drewN_eq]); (refine G.any_mark _ ?_; (try clear g); intro g)) | skip)
    all_goals go_wp2_with (with_reducible refine G.any_mark _ ?_; (try generalize Array.size (World.heap (G.w _)) = bk); (try dsimp only [List.set_cons_zero, List.set_cons_succ]); (try clear g); intro g)
    all_goals refine bodyPost_ret (v := .agg #[.bool sz, .slice Y1 lz y1, .slice Y2 mz y2]) (by simp [results, Tryz.results55, go_sem]) rfl ?_
    all_goals exact ⟨Y1, y1, Q1, Y2, y2, Q2, rfl, hy1, hy2, G.pass _ (by simp) ho1, G.pass _ (by simp) ho2⟩
theorem rTimes_x (x y : Rat) (A1 B1 A2 B2 : Option Addr) (c1 k1 c2 k2 : Nat) (w : World) (h1 : SlW w A1 c1 (limbs (rn x))) (j1 : SlW w B1 k1 (limbs x.den)) (h2 : SlW w A2 c2 (limbs (rn y))) (j2 : SlW w B2 k2 (limbs y.den))
    (l1 : (limbs (rn x)).length ≤ 1000000) (m1 : (limbs x.den).length ≤ 1000000) (l2 : (limbs (rn y)).length ≤ 1000000) (m2 : (limbs y.den).length ≤ 1000000) :
    Calls Tryz.prog 52 #[.agg #[.bool (rneg x), .slice A1 (limbs (rn x)).length c1, .slice B1 (limbs x.den).length k1], .agg #[.bool (rneg y), .slice A2 (limbs (rn y)).length c2, .slice B2 (limbs y.den).length k2]] w (RNf (x * y) w) := by
  have := rTimes4_any (rneg x) (rneg y) A1 B1 A2 B2 c1 k1 c2 k2 (rn x) x.den (rn y) y.den w h1 j1 h2 j2 l1 m1 l2 m2 x.den_nz y.den_nz
  rwa [← frac_mul, frac_self, frac_self] at this
theorem rOver_x (x y : Rat) (h0 : rn y ≠ 0) (A1 B1 A2 B2 : Option Addr) (c1 k1 c2 k2 : Nat) (w : World) (h1 : SlW w A1 c1 (limbs (rn x))) (j1 : SlW w B1 k1 (limbs x.den)) (h2 : SlW w A2 c2 (limbs (rn y))) (j2 : SlW w B2 k2 (limbs y.den))
    (l1 : (limbs (rn x)).length ≤ 1000000) (m1 : (limbs x.den).length ≤ 1000000) (l2 : (limbs (rn y)).length ≤ 1000000) (m2 : (limbs y.den).length ≤ 1000000) :
    Calls Tryz.prog 55 #[.agg #[.bool (rneg x), .slice A1 (limbs (rn x)).length c1, .slice B1 (limbs x.den).length k1], .agg #[.bool (rneg y), .slice A2 (limbs (rn y)).length c2, .slice B2 (limbs y.den).length k2]] w (RNf (x / y) w) := by
  have := rOver_any (rneg x) (rneg y) A1 B1 A2 B2 c1 k1 c2 k2 (rn x) x.den (rn y) y.den w h1 j1 h2 j2 l1 m1 l2 m2 x.den_nz h0
  rw [← frac_mul, ← frac_inv (rneg y) (n := rn y) (d := y.den) h0, frac_self, frac_self] at this
  rw [Rat.div_def]
  exact this
end Go.Proofs.YtjdnpkicdmapnaaGreatDoor
namespace Go.Proofs.YtjdnpkicdmapnaaGreatDoor
open Go.RowKit GW NL
theorem G.oldm {w0 : World} {b : Nat} {X : List Nat} {M : List Blk} {I : List Frag} (g : G w0 X M I) (hI : heapBut w0 b ∈ I) {k o : Nat} {v : Value} (hne : k ≠ b) (h : w0.cell? ⟨k, o, none⟩ = some v) : g.w.cell? ⟨k, o, none⟩ = some v := by
  refine g.frag_cell hI ?_
  unfold World.cell? at h
  unfold Frag.cell heapBut
  simp only at h ⊢
  rw [if_neg hne]
  exact h
/-- block ob holds one int: what has cells of other kinds lies elsewhere -/
theorem ob_ne {w : World} {ob : Nat} {i : Int} (h : w.heap[ob]? = some (.cells #[.int .i64 i] 3 (0, 0))) {k o : Nat} {v : Value} (hc : w.cell? ⟨k, o, none⟩ = some v) (hv : ∀ j : Int, v ≠ .int .i64 j) : k ≠ ob := by
  rintro rfl
  simp only [World.cell?, h] at hc
  rcases o with _ | o
  · simp at hc; exact hv i hc.symm
  · simp at hc
theorem sl_ob {w : World} {ob : Nat} {i : Int} (h : w.heap[ob]? = some (.cells #[.int .i64 i] 3 (0, 0))) {A : Option Addr} {c : Nat} {l : List Nat} (hs : SlW w A c l) : (heapBut w ob).Sl A c l := by
  refine ⟨hs.cap, hs.max, hs.len, ?_, hs.ok⟩
  intro hl
  obtain ⟨b', o, e, cs, T, fr, hb, hc⟩ := hs.lim hl
  refine ⟨b', o, e, cs, T, fr, ?_, hc⟩
  unfold heapBut
  rw [if_neg]
  · exact hb
  · rintro rfl
    have h0 := hc 0 hl
    simp only [heapOf, h] at hb
    cases hb
    rcases o with _ | o
    · simp at h0
    · simp at h0
theorem tab_ob {w : World} {ob : Nat} {i : Int} (h : w.heap[ob]? = some (.cells #[.int .i64 i] 3 (0, 0))) (hT : Tab w) : ob ≠ 1 :=
  (ob_ne h (hT 0 (by decide)) (by intro j hj; cases hj)).symm
/-- the sign -/
def sgn (x : Rat) : Int := if rneg x = true then -1 else if rn x ≠ 0 then 1 else 0
/-- an error; block ob holds the int v -/
def RCE (ob : Nat) (v er : Int) (w : World) (e : Ending) (w' : World) : Prop := e = .returned (.tuple #[.agg #[.bool false, .slice none 0 0, .slice none 0 0], .int .i64 er]) ∧ Chg [ob] w w' ∧ w'.heap[ob]? = some (.cells #[.int .i64 v] 3 (0, 0))
set_option maxRecDepth 20000 in
set_option maxHeartbeats 4000000 in
theorem cmp1_any (ob b cap : Nat) (s1 s2 : Bool) (A1 B1 A2 B2 : Option Addr) (c1 k1 c2 k2 n1 d1 n2 d2 : Nat) (w : World) (hob : w.heap[ob]? = some (.cells #[.int .i64 0] 3 (0, 0))) (f1 : FrAt w b 0 s1 A1 (limbs n1).length c1 B1 (limbs d1).length k1) (f2 : FrAt w b 3 s2 A2 (limbs n2).length c2 B2 (limbs d2).length k2) (hcap : 2 ≤ cap) (h1 : SlW w A1 c1 (limbs n1)) (j1 : SlW w B1 k1 (limbs d1)) (h2 : SlW w A2 c2 (limbs n2)) (j2 : SlW w B2 k2 (limbs d2)) (hT : Tab w)
    (l1 : (limbs n1).length ≤ 10000000) (m1 : (limbs d1).length ≤ 10000000) (l2 : (limbs n2).length ≤ 10000000) (m2 : (limbs d2).length ≤ 10000000) (z1 : d1 ≠ 0) (z2 : d2 ≠ 0) :
    Calls Tryz.prog 56 #[.slice (some ⟨b, 0, none⟩) 2 cap, .pointer (some ⟨ob, 0, none⟩)] w (RCE ob (sgn (frac s1 n1 d1 - frac s2 n2 d2)) 0 w) := by
  have hbo : b ≠ ob := ob_ne hob f1.c0 (by intro j hj; cases hj)
  have hbt := tab_ob hob hT
  replace h1 := sl_ob hob h1
  replace j1 := sl_ob hob j1
  replace h2 := sl_ob hob h2
  replace j2 := sl_ob hob j2
  refine calls_m (cs := [.int .i64 0]) hob fun g => ?_
  clear hob
  rw [Rat.sub_eq_add_neg, ← frac_minus s2 n2 d2]
  have C0 := Lib.hid (fun w => minus_any s2 A2 B2 c2 k2 (limbs n2).length (limbs d2).length w)
  generalize (!s2 && decide (0 < (limbs n2).length)) = t2 at *
  have C1 := Lib.hid (fun w a b c d t => fplus_any s1 t2 A1 B1 A2 B2 c1 k1 c2 k2 n1 d1 n2 d2 w a b c d t l1 m1 l2 m2 z1 z2)
  have HT := Lib.hid hT
  have HBT := Lib.hid hbt
  have HBO := Lib.hid hbo
  have E0 := Lib.hid f1.c0
  have E1 := Lib.hid f1.c1
  have E2 := Lib.hid f1.c2
  have E3 := Lib.hid f2.c0
  have E4 := Lib.hid f2.c1
  have E5 := Lib.hid f2.c2
  clear hT f1 f2 z1 z2 hbt hbo
  generalize (limbs n1).length = ln1 at *
  generalize (limbs d1).length = ld1 at *
  generalize (limbs n2).length = ln2 at *
  generalize (limbs d2).length = ld2 at *
  generalize frac s1 n1 d1 + frac t2 n2 d2 = x at *
  obtain ⟨xs, hxs⟩ : ∃ s, rneg x = s := ⟨_, rfl⟩
  obtain ⟨xn, hxn⟩ : ∃ n, rn x = n := ⟨_, rfl⟩
  obtain ⟨xd, hxd⟩ : ∃ n, x.den = n := ⟨_, rfl⟩
  unfold sgn
  rw [hxs, hxn]
  unfold RNf at C1
  rw [hxs, hxn, hxd] at C1
  clear hxs hxn hxd
  obtain ⟨V, hV⟩ : ∃ V : Int, (if xs = true then -1 else if xn ≠ 0 then 1 else 0) = V := ⟨_, rfl⟩
  rw [hV]
  have HV := Lib.hid hV
  clear hV
  have hcap2 : (2 : Int) ≤ (cap : Int) := by omega
  go_enter Tryz.func56, Tryz.ntmps56
  go_wp2_with (with_reducible refine G.any_mark _ ?_; (try generalize Array.size (World.heap (G.w _)) = bk); (try dsimp only [List.set_cons_zero, List.set_cons_succ]); (try clear g); intro g)
  go_region_held3 (fun w' => w'.cell? ⟨b, 0, none⟩ = some (.bool s1) ∧ w'.cell? ⟨b, 1, none⟩ = some (.slice A1 ln1 c1) ∧ w'.cell? ⟨b, 2, none⟩ = some (.slice B1 ld1 k1) ∧ w'.cell? ⟨b, 3, none⟩ = some (.bool s2) ∧ w'.cell? ⟨b, 4, none⟩ = some (.slice A2 ln2 c2) ∧ w'.cell? ⟨b, 5, none⟩ = some (.slice B2 ld2 k2)) (((try simp only [G.drew_eq, G.drewN_eq]); exact ⟨G.oldm _ (by simp) HBO.out E0.out, G.oldm _ (by simp) HBO.out E1.out, G.oldm _ (by simp) HBO.out E2.out, G.oldm _ (by simp) HBO.out E3.out, G.oldm _ (by simp) HBO.out E4.out, G.oldm _ (by simp) HBO.out E5.out⟩)) (first
    | (go_at_call 41; (with_reducible refine (C0.out _).mono ?_); rintro e w1 ⟨rfl, hb⟩; obtain ⟨g1, rfl⟩ := G.call_ex _ hb; clear hb; (try clear g); revert g1; intro g)
    | (go_at_call 45; (with_reducible refine (C1.out _ ?_ ?_ ?_ ?_ ?_).mono ?_); (· exact G.sl _ (by simp) h1); (· exact G.sl _ (by simp) j1); (· exact G.sl _ (by simp) h2); (· exact G.sl _ (by simp) j2);  (· exact G.tab_m _ (b := ob) (by simp) HT.out HBT.out); rintro e w1 ⟨Y1, y1, Q1, Y2, y2, Q2, rfl, hy1, hy2, hn1, hn2⟩; obtain ⟨g1, rfl⟩ := G.new2_ex _ hn1 hn2; clear hn1 hn2; (try clear g); revert g1; intro g))
  all_goals clear hy1 hy2
  all_goals (obtain ⟨lx, hlx⟩ : ∃ lx, (limbs xn).length = lx := ⟨_, rfl⟩)
  all_goals rw [hlx]
  all_goals (rcases xs with _ | _)
  all_goals (by_cases hx0 : xn = 0)
  all_goals first
    | (have hl0 : lx = 0 := by rw [← hlx, hx0]; exact limbs_len0
       have hV := HV.out
       simp only [hx0, if_true, if_false, ne_eq, not_true_eq_false, not_false_eq_true, Bool.false_eq_true] at hV
       clear hx0 hlx C1 HV
       subst hl0 hV)
    | (have hl0 : (0 : Int) < (lx : Int) := by rw [← hlx]; have := (limbs_ne hx0).2; omega
       have hV := HV.out
       simp only [hx0, if_true, if_false, ne_eq, not_true_eq_false, not_false_eq_true, Bool.false_eq_true] at hV
       clear hx0 hlx C1 HV
       subst hV)
  all_goals go_wp2_with (with_reducible refine G.any_mark _ ?_; (try generalize Array.size (World.heap (G.w _)) = bk); (try dsimp only [List.set_cons_zero, List.set_cons_succ]); (try clear g); intro g)
  all_goals refine bodyPost_ret (v := .tuple #[.agg #[.bool false, .slice none 0 0, .slice none 0 0], .int .i64 0]) (by simp [results, Tryz.results56, go_sem]) rfl ?_
  all_goals exact ⟨rfl, G.chg _, G.blk2 _⟩
/-- what Cmp finds: the sign and the error -/
def cmpR (e1 e2 r : Int) : Int × Int := if e1 ≠ 0 then (0, e1) else if e2 ≠ 0 then (0, e2) else (r, 0)
set_option maxRecDepth 20000 in
set_option maxHeartbeats 4000000 in
theorem with_cmp (ob lb : Nat) (r : Int) (s1 : Bool) (A1 B1 : Option Addr) (c1 k1 : Nat) (l1 m1 : List Nat) (s2 : Bool) (A2 B2 : Option Addr) (c2 k2 : Nat) (l2 m2 : List Nat) (w : World) (hob : w.heap[ob]? = some (.cells #[.int .i64 0] 3 (0, 0))) (p1 : PtAt w lb 0 s1 A1 l1.length c1 B1 m1.length k1) (h1 : SlW w A1 c1 l1) (j1 : SlW w B1 k1 m1) (p2 : PtAt w lb 3 s2 A2 l2.length c2 B2 m2.length k2) (h2 : SlW w A2 c2 l2) (j2 : SlW w B2 k2 m2) (hT : Tab w)
    (hf : rchk s1 l1 m1 = 0 → rchk s2 l2 m2 = 0 → ∀ (w' : World) (bF capF : Nat), 2 ≤ capF → w'.heap[ob]? = some (.cells #[.int .i64 0] 3 (0, 0)) → FrAt w' bF 0 s1 A1 l1.length c1 B1 m1.length k1 → FrAt w' bF 3 s2 A2 l2.length c2 B2 m2.length k2 → SlW w' A1 c1 l1 → SlW w' B1 k1 m1 → SlW w' A2 c2 l2 → SlW w' B2 k2 m2 → Tab w' → Calls Tryz.prog 56 #[.slice (some ⟨bF, 0, none⟩) 2 capF, .pointer (some ⟨ob, 0, none⟩)] w' (RCE ob r 0 w')) :
    Calls Tryz.prog 39 #[.func (.func 56) #[] #[.pointer (some ⟨ob, 0, none⟩)], .slice (some ⟨lb, 0, none⟩) 2 2] w (RCE ob (cmpR (rchk s1 l1 m1) (rchk s2 l2 m2) r).1 (cmpR (rchk s1 l1 m1) (rchk s2 l2 m2) r).2 w) := by
  have hbo : lb ≠ ob := ob_ne hob p1.c0 (by intro j hj; cases hj)
  have hbt := tab_ob hob hT
  replace h1 := sl_ob hob h1
  replace j1 := sl_ob hob j1
  replace h2 := sl_ob hob h2
  replace j2 := sl_ob hob j2
  refine calls_m (cs := [.int .i64 0]) hob fun g => ?_
  clear hob
  have HBT := Lib.hid hbt
  clear hbt
  unfold cmpR
  have CK1 := Lib.hid (fun w a b t => rcheck s1 A1 B1 c1 k1 l1 m1 w a b t)
  have CO1 := Lib.hid (fun w => of_any s1 A1 B1 c1 k1 l1.length m1.length w)
  have E10 := fun (M : List Blk) (g : G w [ob] M [heapBut w ob]) => G.oldm g (List.mem_cons_self ..) hbo p1.c0
  have E11 := fun (M : List Blk) (g : G w [ob] M [heapBut w ob]) => G.oldm g (List.mem_cons_self ..) hbo p1.c1
  have E12 := fun (M : List Blk) (g : G w [ob] M [heapBut w ob]) => G.oldm g (List.mem_cons_self ..) hbo p1.c2
  have H1 := Lib.hid h1
  have J1 := Lib.hid j1
  obtain ⟨e1, he1⟩ : ∃ e, rchk s1 l1 m1 = e := ⟨_, rfl⟩
  rw [he1] at CK1 hf ⊢
  clear p1 h1 j1 he1
  have CK2 := Lib.hid (fun w a b t => rcheck s2 A2 B2 c2 k2 l2 m2 w a b t)
  have CO2 := Lib.hid (fun w => of_any s2 A2 B2 c2 k2 l2.length m2.length w)
  have E20 := fun (M : List Blk) (g : G w [ob] M [heapBut w ob]) => G.oldm g (List.mem_cons_self ..) hbo p2.c0
  have E21 := fun (M : List Blk) (g : G w [ob] M [heapBut w ob]) => G.oldm g (List.mem_cons_self ..) hbo p2.c1
  have E22 := fun (M : List Blk) (g : G w [ob] M [heapBut w ob]) => G.oldm g (List.mem_cons_self ..) hbo p2.c2
  have H2 := Lib.hid h2
  have J2 := Lib.hid j2
  obtain ⟨e2, he2⟩ : ∃ e, rchk s2 l2 m2 = e := ⟨_, rfl⟩
  rw [he2] at CK2 hf ⊢
  clear p2 h2 j2 he2
  have HF := Lib.hid hf
  have HT := Lib.hid hT
  obtain ⟨RR, hRR⟩ : ∃ RR, (if e1 ≠ 0 then ((0, e1) : Int × Int) else if e2 ≠ 0 then (0, e2) else (r, 0)) = RR := ⟨_, rfl⟩
  rw [hRR]
  clear hbo
  have HRR := Lib.hid hRR
  clear hf hT hRR
  generalize l1.length = n1 at *
  generalize m1.length = d1 at *
  generalize l2.length = n2 at *
  generalize m2.length = d2 at *
  obtain ⟨i0, hi, hz0, hz1, hz2⟩ := info_parts infoFr
  have HP1 := pts_one s1 A1 n1 c1 B1 d1 k1
  have HP2 := pts_one s2 A2 n2 c2 B2 d2 k2
  go_enter Tryz.func39, Tryz.ntmps39
  go_wp2_with (with_reducible refine G.any_mark _ ?_; (try generalize Array.size (World.heap (G.w _)) = bk); (try dsimp only [List.set_cons_zero, List.set_cons_succ]); (try clear g); intro g)
  obtain ⟨rb, rfl⟩ : ∃ rb, rb = bk := ⟨_, rfl⟩
  go_loopg [6, 12] 2 (fun gk s6 s12 wr => (gk = 2 ∧ s12 = .int .i64 0 ∧ s6 = .slice none 0 0 ∧ ∃ g : G w [ob] [(rb, 25, [.bool false, .slice none 0 0, .slice none 0 0]), (ob, 3, [.int .i64 0])] [heapBut w ob], wr = g.w) ∨ (gk = 1 ∧ s12 = .int .i64 1 ∧ e1 = 0 ∧ ∃ b cap cs, s6 = .slice (some ⟨b, 0, none⟩) 1 cap ∧ Row 61 3 1 ([Value.bool s1, .slice A1 n1 c1, .slice B1 d1 k1]) cap cs ∧ w.heap.size ≤ b ∧ ∃ g : G w [ob] [(b, 61, cs), (rb, 25, [.bool false, .slice none 0 0, .slice none 0 0]), (ob, 3, [.int .i64 0])] [heapBut w ob], wr = g.w) ∨ (gk = 0 ∧ s12 = .int .i64 2 ∧ e1 = 0 ∧ e2 = 0 ∧ ∃ b cap cs, s6 = .slice (some ⟨b, 0, none⟩) 2 cap ∧ Row 61 3 2 ([Value.bool s1, .slice A1 n1 c1, .slice B1 d1 k1] ++ [Value.bool s2, .slice A2 n2 c2, .slice B2 d2 k2]) cap cs ∧ w.heap.size ≤ b ∧ ∃ g : G w [ob] [(b, 61, cs), (rb, 25, [.bool false, .slice none 0 0, .slice none 0 0]), (ob, 3, [.int .i64 0])] [heapBut w ob], wr = g.w))
  case atStart => exact .inl ⟨rfl, rfl, rfl, g, rfl⟩
  case round =>
    clear g
    rcases hrel with ⟨rfl, rfl, rfl, g, rfl⟩ | ⟨rfl, rfl, rfl, b, cap, cs, rfl, hrow, hbw, g, rfl⟩ | ⟨rfl, rfl, rfl, rfl, b, cap, cs, rfl, hrow, hbw, g, rfl⟩
    · go_wp2_with (with_reducible refine G.any_mark _ ?_; (try generalize Array.size (World.heap (G.w _)) = bk); (try dsimp only [List.set_cons_zero, List.set_cons_succ]); (try clear g); intro g)
      (try (refine cmark _ ?_; (try dsimp only [List.set_cons_zero, List.set_cons_succ]); (try clear g); intro g))
      refine (CK1.out _ (G.sl g (by simp) H1.out) (G.sl g (by simp) J1.out) (G.tab_m g (b := ob) (by simp) HT.out HBT.out)).mono ?_
      rintro e w1 ⟨rfl, hb⟩
      obtain ⟨g1, rfl⟩ := G.call_ex _ hb
      clear hb
      (try clear g)
      revert g1
      intro g
      by_cases hez : e1 = 0
      · subst hez
        go_wp2_with (with_reducible refine G.any_mark _ ?_; (try generalize Array.size (World.heap (G.w _)) = bk); (try dsimp only [List.set_cons_zero, List.set_cons_succ]); (try clear g); intro g)
        refine (CO1.out _).mono ?_
        rintro e w1 ⟨rfl, hb⟩
        obtain ⟨g1, rfl⟩ := G.call_ex _ hb
        clear hb
        (try clear g)
        revert g1
        intro g
        obtain ⟨g2, hg2⟩ := G.less g (M' := [(rb, 25, [.bool false, .slice none 0 0, .slice none 0 0]), (ob, 3, [.int .i64 0])]) (by simp)
        rw [hg2]
        clear hg2 g
        revert g2
        intro g
        go_wp2_with (first | (with_reducible refine G.any_mark _ ?_; (try generalize Array.size (World.heap (G.w _)) = bk); (try dsimp only [List.set_cons_zero, List.set_cons_succ]); (try clear g); intro g) | (at_builtin; refine wpList_append_lit0 rfl _ _ 56 rfl 61 i0 _ 3 56 Tryz.underlying56 hi hz0 hz1 hz2 rfl (by decide) g rfl 1 rfl rfl HP1 (by decide) (by decide) (by decide) ?_; clear g; intro b cap cs g hb hrow))
        obtain ⟨g2, hg2⟩ := G.less g (M' := [(b, 61, cs), (rb, 25, [.bool false, .slice none 0 0, .slice none 0 0]), (ob, 3, [.int .i64 0])]) (by simp)
        go_roundg 1
        case measure => omega
        case rel => exact .inr (.inl ⟨by simp, by simp, by simp, b, cap, cs, rfl, hrow, hb, g2, hg2⟩)
      · have hne : ((e1 : Int) == 0) = false := by rw [beq_eq_false_iff_ne]; exact hez
        have hne2 : ((e1 : Int) != 0) = true := by rw [bne, hne]; rfl
        have HEZ := Lib.hid hez
        clear hez
        go_wp2_with (with_reducible refine G.any_mark _ ?_; (try generalize Array.size (World.heap (G.w _)) = bk); (try dsimp only [List.set_cons_zero, List.set_cons_succ]); (try clear g); intro g)
        refine bodyPost_ret (v := .tuple #[.agg #[.bool false, .slice none 0 0, .slice none 0 0], .int .i64 e1]) (by simp [results, Tryz.results39, go_sem]) rfl ?_
        rw [← HRR.out, if_pos HEZ.out]
        first | exact ⟨rfl, G.chg _, G.blk1 _⟩ | exact ⟨rfl, G.chg _, G.blk2 _⟩ | exact ⟨rfl, G.chg _, G.blk3 _⟩ | exact ⟨rfl, G.chg _, G.blk4 _⟩ | exact ⟨rfl, G.chg _, G.blk5 _⟩
    · go_wp2_with (with_reducible refine G.any_mark _ ?_; (try generalize Array.size (World.heap (G.w _)) = bk); (try dsimp only [List.set_cons_zero, List.set_cons_succ]); (try clear g); intro g)
      (try (refine cmark _ ?_; (try dsimp only [List.set_cons_zero, List.set_cons_succ]); (try clear g); intro g))
      refine (CK2.out _ (G.sl g (by simp) H2.out) (G.sl g (by simp) J2.out) (G.tab_m g (b := ob) (by simp) HT.out HBT.out)).mono ?_
      rintro e w1 ⟨rfl, hb⟩
      obtain ⟨g1, rfl⟩ := G.call_ex _ hb
      clear hb
      (try clear g)
      revert g1
      intro g
      by_cases hez : e2 = 0
      · subst hez
        go_wp2_with (with_reducible refine G.any_mark _ ?_; (try generalize Array.size (World.heap (G.w _)) = bk); (try dsimp only [List.set_cons_zero, List.set_cons_succ]); (try clear g); intro g)
        refine (CO2.out _).mono ?_
        rintro e w1 ⟨rfl, hb⟩
        obtain ⟨g1, rfl⟩ := G.call_ex _ hb
        clear hb
        (try clear g)
        revert g1
        intro g
        obtain ⟨g2, hg2⟩ := G.less g (M' := [(b, 61, cs), (rb, 25, [.bool false, .slice none 0 0, .slice none 0 0]), (ob, 3, [.int .i64 0])]) (by simp)
        rw [hg2]
        clear hg2 g
        revert g2
        intro g
        go_wp2_with (first | (with_reducible refine G.any_mark _ ?_; (try generalize Array.size (World.heap (G.w _)) = bk); (try dsimp only [List.set_cons_zero, List.set_cons_succ]); (try clear g); intro g) | (at_builtin; refine wpList_append_lit rfl _ _ 56 rfl 61 i0 _ 3 56 Tryz.underlying56 hi hz0 hz1 hz2 rfl (by decide) g hrow hbw rfl 1 rfl rfl HP2 (by decide) (by decide) (by decide) ?_; clear hrow hbw g; intro b cap cs g hb hrow))
        obtain ⟨g2, hg2⟩ := G.less g (M' := [(b, 61, cs), (rb, 25, [.bool false, .slice none 0 0, .slice none 0 0]), (ob, 3, [.int .i64 0])]) (by simp)
        go_roundg 0
        case measure => omega
        case rel => exact .inr (.inr (⟨by simp, by simp, by simp, by simp, b, cap, cs, rfl, hrow, hb, g2, hg2⟩))
      · have hne : ((e2 : Int) == 0) = false := by rw [beq_eq_false_iff_ne]; exact hez
        have hne2 : ((e2 : Int) != 0) = true := by rw [bne, hne]; rfl
        have HEZ := Lib.hid hez
        clear hez
        go_wp2_with (with_reducible refine G.any_mark _ ?_; (try generalize Array.size (World.heap (G.w _)) = bk); (try dsimp only [List.set_cons_zero, List.set_cons_succ]); (try clear g); intro g)
        refine bodyPost_ret (v := .tuple #[.agg #[.bool false, .slice none 0 0, .slice none 0 0], .int .i64 e2]) (by simp [results, Tryz.results39, go_sem]) rfl ?_
        rw [← HRR.out, if_neg (by decide), if_pos HEZ.out]
        first | exact ⟨rfl, G.chg _, G.blk1 _⟩ | exact ⟨rfl, G.chg _, G.blk2 _⟩ | exact ⟨rfl, G.chg _, G.blk3 _⟩ | exact ⟨rfl, G.chg _, G.blk4 _⟩ | exact ⟨rfl, G.chg _, G.blk5 _⟩
    · go_wp2_with (with_reducible refine G.any_mark _ ?_; (try generalize Array.size (World.heap (G.w _)) = bk); (try dsimp only [List.set_cons_zero, List.set_cons_succ]); (try clear g); intro g)
      refine (HF.out (by simp) (by simp) _ b cap hrow.le (G.blk2 g) ⟨row_at g (List.mem_cons_self ..) hrow (j := 0) rfl, row_at g (List.mem_cons_self ..) hrow (j := 1) rfl, row_at g (List.mem_cons_self ..) hrow (j := 2) rfl⟩ ⟨row_at g (List.mem_cons_self ..) hrow (j := 3) rfl, row_at g (List.mem_cons_self ..) hrow (j := 4) rfl, row_at g (List.mem_cons_self ..) hrow (j := 5) rfl⟩ (G.sl g (by simp) H1.out) (G.sl g (by simp) J1.out) (G.sl g (by simp) H2.out) (G.sl g (by simp) J2.out) (G.tab_m g (b := ob) (by simp) HT.out HBT.out)).mono ?_
      rintro e w1 ⟨rfl, hch, hcb⟩
      obtain ⟨g1, rfl⟩ := G.mut2 g (cs' := [.int .i64 r]) hch hcb
      clear hch hcb
      (try clear g)
      revert g1
      intro g
      go_wp2_with (with_reducible refine G.any_mark _ ?_; (try generalize Array.size (World.heap (G.w _)) = bk); (try dsimp only [List.set_cons_zero, List.set_cons_succ]); (try clear g); intro g)
      refine bodyPost_ret (v := .tuple #[.agg #[.bool false, .slice none 0 0, .slice none 0 0], .int .i64 0]) (by simp [results, Tryz.results39, go_sem]) rfl ?_
      rw [← HRR.out, if_neg (by decide), if_neg (by decide)]
      exact ⟨rfl, G.chg _, G.blk2 _⟩
end Go.Proofs.YtjdnpkicdmapnaaGreatDoor
namespace Go.Proofs.YtjdnpkicdmapnaaGreatDoor
open Go.RowKit GW NL
set_option maxRecDepth 20000 in
set_option maxHeartbeats 2000000 in
theorem qCmp_any (s1 s2 : Bool) (A1 B1 A2 B2 : Option Addr) (c1 k1 c2 k2 : Nat) (l1 m1 l2 m2 : List Nat) (w : World) (h1 : SlW w A1 c1 l1) (j1 : SlW w B1 k1 m1) (h2 : SlW w A2 c2 l2) (j2 : SlW w B2 k2 m2) (hT : Tab w) :
    Calls Tryz.prog 20 #[.agg #[.bool s1, .slice A1 l1.length c1, .slice B1 m1.length k1], .agg #[.bool s2, .slice A2 l2.length c2, .slice B2 m2.length k2]] w fun e w' => e = .returned (.tuple #[.int .i64 (cmpR (rchk s1 l1 m1) (rchk s2 l2 m2) (sgn (fr s1 l1 m1 - fr s2 l2 m2))).1, .int .i64 (cmpR (rchk s1 l1 m1) (rchk s2 l2 m2) (sgn (fr s1 l1 m1 - fr s2 l2 m2))).2]) ∧ Below w.heap.size w w' := by
  refine calls_b fun g => ?_
  have ol1 := h1.ok
  have om1 := j1.ok
  have ol2 := h2.ok
  have om2 := j2.ok
  have CW := Lib.hid (fun ob lb w hob p1 a1 b1 p2 a2 b2 ht => with_cmp ob lb (sgn (fr s1 l1 m1 - fr s2 l2 m2)) s1 A1 B1 c1 k1 l1 m1 s2 A2 B2 c2 k2 l2 m2 w hob p1 a1 b1 p2 a2 b2 ht (fun r1 r2 w' bF capF hc ho f1 f2 x1 y1 x2 y2 t => by
    obtain ⟨e1, e2, e3, _, _, e6, e7⟩ := rchk_ok ol1 om1 r1
    obtain ⟨e1', e2', e3', _, _, e6', e7'⟩ := rchk_ok ol2 om2 r2
    have := cmp1_any ob bF capF s1 s2 A1 B1 A2 B2 c1 k1 c2 k2 (val l1) (val m1) (val l2) (val m2) w' ho (by rw [← e1, ← e2]; exact f1) (by rw [← e1', ← e2']; exact f2) hc (by rw [← e1]; exact x1) (by rw [← e2]; exact y1) (by rw [← e1']; exact x2) (by rw [← e2']; exact y2) t (by rw [← e1]; omega) (by rw [← e2]; omega) (by rw [← e1']; omega) (by rw [← e2']; omega) e3 e3'
    exact this))
  have HT := Lib.hid hT
  have H1 := Lib.hid h1
  have J1 := Lib.hid j1
  have H2 := Lib.hid h2
  have J2 := Lib.hid j2
  clear ol1 om1 ol2 om2 h1 j1 h2 j2 hT
  obtain ⟨RR, hRR⟩ : ∃ RR, cmpR (rchk s1 l1 m1) (rchk s2 l2 m2) (sgn (fr s1 l1 m1 - fr s2 l2 m2)) = RR := ⟨_, rfl⟩
  rw [hRR] at CW ⊢
  clear hRR
  generalize l1.length = n1 at *
  generalize m1.length = d1 at *
  generalize l2.length = n2 at *
  generalize m2.length = d2 at *
  go_enter Tryz.func20, Tryz.ntmps20
  go_wp2_with (with_reducible refine G.any_mark _ ?_; (try generalize Array.size (World.heap (G.w _)) = bk); (try dsimp only [List.set_cons_zero, List.set_cons_succ]); (try clear g); intro g)
  refine (CW.out _ _ _ (G.blk1 g) ⟨(g.cell0 0).trans rfl, (g.cell0 1).trans rfl, (g.cell0 2).trans rfl⟩ (G.sl g (by simp) H1.out) (G.sl g (by simp) J1.out) ⟨(g.cell0 3).trans rfl, (g.cell0 4).trans rfl, (g.cell0 5).trans rfl⟩ (G.sl g (by simp) H2.out) (G.sl g (by simp) J2.out) (G.tab g HT.out)).mono ?_
  rintro e w1 ⟨rfl, hch, hcb⟩
  obtain ⟨g1, rfl⟩ := G.mut1 g (cs' := [.int .i64 RR.1]) hch hcb
  clear hch hcb
  (try clear g)
  revert g1
  intro g
  go_wp2_with (with_reducible refine G.any_mark _ ?_; (try generalize Array.size (World.heap (G.w _)) = bk); (try dsimp only [List.set_cons_zero, List.set_cons_succ]); (try clear g); intro g)
  refine bodyPost_ret (v := .tuple #[.int .i64 RR.1, .int .i64 RR.2]) (by simp [results, Tryz.results20, go_sem]) rfl ?_
  exact ⟨rfl, G.below _⟩
end Go.Proofs.YtjdnpkicdmapnaaGreatDoor
