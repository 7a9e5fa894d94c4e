/- Plain facts and contracts of functions of the program, out of walks. Their conditions stand ahead of each. -/
import Derived.Test.YtjdnpkicdmapnaaGreatDoorNm1
import Derived.Test.YtjdnpkicdmapnaaGreatDoorNm2
import Derived.Test.YtjdnpkicdmapnaaGreatDoorNm3
import Derived.Test.YtjdnpkicdmapnaaGreatDoorNm18
import Derived.Test.YtjdnpkicdmapnaaGreatDoorNm26
import Derived.Test.YtjdnpkicdmapnaaGreatDoorNm32
import Derived.Below
import Derived.BigQuiet
import Derived.Deep.Draws
import Derived.Deep.LoopGhost
import Derived.Deep.QuietTactic
import Derived.Deep.RegionHeld3
import Derived.Deep.RegionLaw
import Derived.Defers
import Derived.Laws.BytesString
import Derived.Laws.Cells
import Derived.Laws.CopyOwn
import Derived.Laws.CopyRow
import Derived.Laws.NewBlocks
import Derived.Laws.OwnMore
import Derived.Laws.Pointers
import Derived.Laws.Rows
import Derived.Lib.BitFns
import Derived.Lib.Hide
import Derived.Lib.ItoaNum
import Derived.Lib.TrailingZeros
import Derived.LoopIn
import Derived.LoopNIn
import Derived.Maps.AppendAt
import Derived.OrdersIn
import Derived.OwnWalk
import Derived.OwnWalkIn
import Derived.RangeFuncBound
import Derived.RangeFuncBox
import Derived.RangeFuncCalls
import Derived.RangeFuncLeaves
import Derived.RangeFuncNested
import Derived.RowKit3
import Derived.Shelf.Abstract
import Derived.Shelf.RegionOpen
import Derived.Shelf.Spec.TrailingZeros
import Derived.StillTactics
import Derived.StillTailTactics
import Derived.TacticsInMore
import Derived.Test.YtjdnpkicdmapnaaGreatDoorProg
import Derived.WalkKit
import Derived.WalkLawsBesides
import Derived.WalkMore
import Derived.WalkSpells
set_option linter.unusedVariables false
set_option linter.unusedSimpArgs false
set_option exponentiation.threshold 10000
namespace Go.Proofs.YtjdnpkicdmapnaaGreatDoor
open Go.RowKit GW NL
theorem or_u64_comm (x y : Int) : bits .or .u64 x y = bits .or .u64 y x := by
  show IntKind.u64.wrap ((BitVec.ofInt 64 x ||| BitVec.ofInt 64 y).toNat : Int) = IntKind.u64.wrap ((BitVec.ofInt 64 y ||| BitVec.ofInt 64 x).toNat : Int)
  rw [BitVec.or_comm]
theorem or_u64_add (x y k : Nat) (hk : k ≤ 63) (hx : x < 2 ^ k) (hy : y + x < 18446744073709551616) (hd : y % 2 ^ k = 0) : bits .or .u64 (x : Int) (y : Int) = ((y + x : Nat) : Int) := by
  have lt : 2 ^ k ≤ 2 ^ 63 := Nat.pow_le_pow_right (by omega) hk
  have e : (BitVec.ofInt 64 (x : Int) ||| BitVec.ofInt 64 (y : Int)).toNat = y + x := by
    rw [BitVec.toNat_or, BitVec.ofInt_natCast, BitVec.ofInt_natCast, BitVec.toNat_ofNat, BitVec.toNat_ofNat, Nat.mod_eq_of_lt (by omega), Nat.mod_eq_of_lt (by omega)]
    have hm : y = 2 ^ k * (y / 2 ^ k) := by have := Nat.div_add_mod y (2 ^ k); omega
    rw [Nat.or_comm]
    conv => lhs; rw [hm]
    rw [← Nat.two_pow_add_eq_or_of_lt hx]
    omega
  show IntKind.u64.wrap ((BitVec.ofInt 64 (x : Int) ||| BitVec.ofInt 64 (y : Int)).toNat : Int) = _
  rw [e, IntKind.wrap_u64]
  omega
/-- what Int answers -/
def intX (s : Bool) (l m : List Nat) : Int × Int := if rchk s l m ≠ 0 then (0, rchk s l m) else if val m ≠ 1 then (0, 18) else if 9223372036854775808 < val l ∨ (val l = 9223372036854775808 ∧ s = false) then (0, 5) else ((if s = true then -(val l : Int) else (val l : Int)), 0)
set_option maxRecDepth 20000 in
set_option maxHeartbeats 4000000 in
theorem qInt_any (s : Bool) (A B : Option Addr) (c k : Nat) (l m : List Nat) (w : World) (h1 : SlW w A c l) (h2 : SlW w B k m) (hT : Tab w) :
    Calls Tryz.prog 37 #[.agg #[.bool s, .slice A l.length c, .slice B m.length k]] w fun e w' => e = .returned (.tuple #[.int .i64 (intX s l m).1, .int .i64 (intX s l m).2]) ∧ Below w.heap.size w w' := by
  refine calls_b fun g => ?_
  have CK := Lib.hid (fun w a b t => rcheck s A B c k l m w a b t)
  obtain ⟨RR, hRR⟩ : ∃ R, intX s l m = R := ⟨_, rfl⟩
  rw [hRR]
  unfold intX at hRR
  by_cases hx : rchk s l m = 0
  · rw [hx] at CK
    rw [if_neg (by omega)] at hRR
    obtain ⟨e1, e2, e3, _, _, e6, e7⟩ := rchk_ok h1.ok h2.ok hx
    have CO := Lib.hid (fun w => of_any s A B c k l.length m.length w)
    have CU := Lib.hid (fun w h => lunit_any B k (val m) w h)
    rw [← e2] at CU
    by_cases hd : val m = 1
    · rw [if_neg (by omega)] at hRR
      rw [decide_eq_true hd] at CU
      have CL0 := Lib.hid (fun w h => lat_any A c l 0 w h (by omega))
      have CL1 := Lib.hid (fun w h => lat_any A c l 1 w h (by omega))
      rw [show ((0 : Nat) : Int) = 0 from rfl] at CL0
      rw [show ((1 : Nat) : Int) = 1 from rfl] at CL1
      have g0 := getD_val l h1.ok 0
      have g1 := getD_val l h1.ok 1
      rw [Nat.pow_zero, Nat.div_one] at g0
      rw [Nat.pow_one] at g1
      have hlen : l.length ≤ 2 ↔ val l < 18446744073709551616 := by
        rw [show l.length = (limbs (val l)).length by rw [← e1], limbs_len]
      generalize l.getD 0 0 = x at *
      generalize l.getD 1 0 = y at *
      generalize val l = V at *
      have H1 := Lib.hid h1
      have H2 := Lib.hid h2
      have HT := Lib.hid hT
      clear h1 h2 hT hx e1 e2 e3 e6 e7 hd
      generalize l.length = n at *
      generalize m.length = d at *
      have hx9 : x < 4294967296 := by omega
      have hy9 : y < 4294967296 := by omega
      obtain ⟨M, hM⟩ : ∃ M, V % 18446744073709551616 = M := ⟨_, rfl⟩
      have hyM : y * 4294967296 + x = M := by omega
      have hor : bits .or .u64 ((y : Int) * 4294967296) (x : Int) = (M : Int) := by
        rw [show (y : Int) * 4294967296 = ((y * 4294967296 : Nat) : Int) by omega, or_u64_comm, or_u64_add _ _ 32 (by omega) (by omega) (by omega) (by omega)]
        omega
      have hw1 : IntKind.u64.wrap (y : Int) = (y : Int) := by rw [IntKind.wrap_u64]; omega
      have hw2 : IntKind.u64.wrap (x : Int) = (x : Int) := by rw [IntKind.wrap_u64]; omega
      have hw3 : IntKind.u64.wrap ((y : Int) * 4294967296) = (y : Int) * 4294967296 := by rw [IntKind.wrap_u64]; omega
      have HV := Lib.hid (And.intro hlen (And.intro hM hRR))
      clear hlen hM hRR g0 g1
      go_enter Tryz.func37, Tryz.ntmps37
      go_wp2_with (with_reducible refine G.any_mark _ ?_; (try generalize Array.size (World.heap (G.w _)) = bk); (try dsimp only [List.set_cons_zero, List.set_cons_succ]); (try clear g); intro g)
      refine (CK.out _ (G.sl g (by simp) H1.out) (G.sl g (by simp) H2.out) (G.tab g HT.out)).mono ?_
      rintro e w1 ⟨rfl, hb⟩
      obtain ⟨g1, rfl⟩ := G.call_ex _ hb
      clear hb
      (try clear g)
      revert g1
      intro g
      go_wp2_with (with_reducible refine G.any_mark _ ?_; (try generalize Array.size (World.heap (G.w _)) = bk); (try dsimp only [List.set_cons_zero, List.set_cons_succ]); (try clear g); intro g)
      refine (CO.out _).mono ?_
      rintro e w1 ⟨rfl, hb⟩
      obtain ⟨g1, rfl⟩ := G.call_ex _ hb
      clear hb
      (try clear g)
      revert g1
      intro g
      go_wp2_with (with_reducible refine G.any_mark _ ?_; (try generalize Array.size (World.heap (G.w _)) = bk); (try dsimp only [List.set_cons_zero, List.set_cons_succ]); (try clear g); intro g)
      (try (refine cmark _ ?_; (try dsimp only [List.set_cons_zero, List.set_cons_succ]); (try clear g); intro g))
      refine (CU.out _ (G.sl g (by simp) H2.out)).mono ?_
      rintro e w1 ⟨rfl, rfl⟩
      go_wp2_with (with_reducible refine G.any_mark _ ?_; (try generalize Array.size (World.heap (G.w _)) = bk); (try dsimp only [List.set_cons_zero, List.set_cons_succ]); (try clear g); intro g)
      go_region_held3 (G.heldN g [true, true]) (simp [G.heldN, HeldN, go_sem]) (first
        | (go_at_call 82; (with_reducible refine (CL1.out _ ?_).mono ?_); (· exact G.sl _ (by simp) H1.out); rintro e w1 ⟨rfl, rfl⟩)
        | (go_at_call 82; (with_reducible refine (CL0.out _ ?_).mono ?_); (· exact G.sl _ (by simp) H1.out); rintro e w1 ⟨rfl, rfl⟩))
      all_goals obtain ⟨hlen, hM, hRR⟩ := HV.out
      all_goals clear HV hw1 hw2 hw3 hor hyM hx9 hy9 CL0 CL1 CU CO CK H1 H2 HT
      all_goals obtain ⟨q, hq⟩ : ∃ q : Int, (M : Int) = q := ⟨_, rfl⟩
      all_goals rw [hq]
      all_goals by_cases h2 : n ≤ 2
      all_goals (try have hV' : ¬ V < 18446744073709551616 := fun h => h2 (hlen.2 h))
      · have hV := hlen.1 h2
        rw [Nat.mod_eq_of_lt hV] at hM
        subst hM
        have h2i : ¬ ((2 : Int) < (n : Int)) := by omega
        clear hlen hV h2
        rcases Nat.lt_trichotomy V 9223372036854775808 with h3 | h3 | h3
        · rw [if_neg (by omega)] at hRR
          have h4 : ¬ ((9223372036854775808 : Int) < q) := by omega
          have h5 : (q == 9223372036854775808) = false := by rw [beq_eq_false_iff_ne]; omega
          have h8 : IntKind.i64.wrap q = q := by rw [IntKind.wrap_i64]; omega
          obtain ⟨N, hN⟩ : ∃ N, IntKind.u64.wrap (-q) = N := ⟨_, rfl⟩
          obtain ⟨r, hr⟩ : ∃ r, -q = r := ⟨_, rfl⟩
          have h9 : IntKind.i64.wrap N = r := by rw [← hN, IntKind.wrap_u64, IntKind.wrap_i64]; omega
          rw [hq, hr] at hRR
          clear hq h3 
          rcases s with _ | _
          · have HRR := Lib.hid hRR
            clear hRR hr hN h9
            go_wp2_with (with_reducible refine G.any_mark _ ?_; (try generalize Array.size (World.heap (G.w _)) = bk); (try dsimp only [List.set_cons_zero, List.set_cons_succ]); (try clear g); intro g)
            go_ret2
            rw [← HRR.out]
            exact ⟨rfl, G.below _⟩
          · have HRR := Lib.hid hRR
            have HR := Lib.hid hr
            clear hRR hr h8
            go_wp2_with (with_reducible refine G.any_mark _ ?_; (try generalize Array.size (World.heap (G.w _)) = bk); (try dsimp only [List.set_cons_zero, List.set_cons_succ]); (try clear g); intro g)
            go_ret2
            rw [← HRR.out]
            exact ⟨rfl, G.below _⟩
        · subst h3
          have hq' : q = 9223372036854775808 := by omega
          subst hq'
          have h8 : IntKind.u64.wrap (-9223372036854775808) = 9223372036854775808 := by rw [IntKind.wrap_u64]; omega
          have h9 : IntKind.i64.wrap 9223372036854775808 = -9223372036854775808 := by rw [IntKind.wrap_i64]; omega
          clear hq
          rcases s with _ | _
          · rw [if_pos (.inr ⟨rfl, rfl⟩)] at hRR
            have HRR := Lib.hid hRR
            clear hRR
            go_wp2_with (with_reducible refine G.any_mark _ ?_; (try generalize Array.size (World.heap (G.w _)) = bk); (try dsimp only [List.set_cons_zero, List.set_cons_succ]); (try clear g); intro g)
            go_ret2
            rw [← HRR.out]
            exact ⟨rfl, G.below _⟩
          · rw [if_neg (by simp), if_pos rfl] at hRR
            have HRR := Lib.hid hRR
            clear hRR
            go_wp2_with (with_reducible refine G.any_mark _ ?_; (try generalize Array.size (World.heap (G.w _)) = bk); (try dsimp only [List.set_cons_zero, List.set_cons_succ]); (try clear g); intro g)
            go_ret2
            rw [← HRR.out]
            exact ⟨rfl, G.below _⟩
        · rw [if_pos (.inl h3)] at hRR
          have h4 : (9223372036854775808 : Int) < q := by omega
          have HRR := Lib.hid hRR
          clear hRR hq h3
          go_wp2_with (with_reducible refine G.any_mark _ ?_; (try generalize Array.size (World.heap (G.w _)) = bk); (try dsimp only [List.set_cons_zero, List.set_cons_succ]); (try clear g); intro g)
          go_ret2
          rw [← HRR.out]
          exact ⟨rfl, G.below _⟩
      · rw [if_pos (.inl (by omega))] at hRR
        have h2i : (2 : Int) < (n : Int) := by omega
        have HRR := Lib.hid hRR
        clear hRR hq hlen hM hV' h2
        go_wp2_with (with_reducible refine G.any_mark _ ?_; (try generalize Array.size (World.heap (G.w _)) = bk); (try dsimp only [List.set_cons_zero, List.set_cons_succ]); (try clear g); intro g)
        go_ret2
        rw [← HRR.out]
        exact ⟨rfl, G.below _⟩
    · rw [if_pos hd] at hRR
      rw [decide_eq_false hd] at CU
      have HRR := Lib.hid hRR
      have H1 := Lib.hid h1
      have H2 := Lib.hid h2
      have HT := Lib.hid hT
      clear h1 h2 hT hx e1 e2 e3 e6 e7 hd hRR
      generalize l.length = n at *
      generalize m.length = d at *
      go_enter Tryz.func37, Tryz.ntmps37
      go_wp2_with (with_reducible refine G.any_mark _ ?_; (try generalize Array.size (World.heap (G.w _)) = bk); (try dsimp only [List.set_cons_zero, List.set_cons_succ]); (try clear g); intro g)
      refine (CK.out _ (G.sl g (by simp) H1.out) (G.sl g (by simp) H2.out) (G.tab g HT.out)).mono ?_
      rintro e w1 ⟨rfl, hb⟩
      obtain ⟨g1, rfl⟩ := G.call_ex _ hb
      clear hb
      (try clear g)
      revert g1
      intro g
      go_wp2_with (with_reducible refine G.any_mark _ ?_; (try generalize Array.size (World.heap (G.w _)) = bk); (try dsimp only [List.set_cons_zero, List.set_cons_succ]); (try clear g); intro g)
      refine (CO.out _).mono ?_
      rintro e w1 ⟨rfl, hb⟩
      obtain ⟨g1, rfl⟩ := G.call_ex _ hb
      clear hb
      (try clear g)
      revert g1
      intro g
      go_wp2_with (with_reducible refine G.any_mark _ ?_; (try generalize Array.size (World.heap (G.w _)) = bk); (try dsimp only [List.set_cons_zero, List.set_cons_succ]); (try clear g); intro g)
      (try (refine cmark _ ?_; (try dsimp only [List.set_cons_zero, List.set_cons_succ]); (try clear g); intro g))
      refine (CU.out _ (G.sl g (by simp) H2.out)).mono ?_
      rintro e w1 ⟨rfl, rfl⟩
      go_wp2_with (with_reducible refine G.any_mark _ ?_; (try generalize Array.size (World.heap (G.w _)) = bk); (try dsimp only [List.set_cons_zero, List.set_cons_succ]); (try clear g); intro g)
      go_ret2
      rw [← HRR.out]
      exact ⟨rfl, G.below _⟩
  · rw [if_pos hx] at hRR
    have hx' : (rchk s l m == 0) = false := by simpa using hx
    have hx'' : (rchk s l m != 0) = true := by simpa using hx
    have HRR := Lib.hid hRR
    have H1 := Lib.hid h1
    have H2 := Lib.hid h2
    have HT := Lib.hid hT
    clear h1 h2 hT hx hRR
    generalize rchk s l m = r at *
    generalize l.length = n at *
    generalize m.length = d at *
    go_enter Tryz.func37, Tryz.ntmps37
    go_wp2_with (with_reducible refine G.any_mark _ ?_; (try generalize Array.size (World.heap (G.w _)) = bk); (try dsimp only [List.set_cons_zero, List.set_cons_succ]); (try clear g); intro g)
    refine (CK.out _ (G.sl g (by simp) H1.out) (G.sl g (by simp) H2.out) (G.tab g HT.out)).mono ?_
    rintro e w1 ⟨rfl, hb⟩
    obtain ⟨g1, rfl⟩ := G.call_ex _ hb
    clear hb
    (try clear g)
    revert g1
    intro g
    go_wp2_with (with_reducible refine G.any_mark _ ?_; (try generalize Array.size (World.heap (G.w _)) = bk); (try dsimp only [List.set_cons_zero, List.set_cons_succ]); (try clear g); intro g)
    go_ret2
    rw [← HRR.out]
    exact ⟨rfl, G.below _⟩
end Go.Proofs.YtjdnpkicdmapnaaGreatDoor
namespace Go.Proofs.YtjdnpkicdmapnaaGreatDoor
open Go.RowKit GW NL
/-- a number without an error -/
def RX (x : Rat) (w : World) (e : Ending) (w' : World) : Prop := ∃ A c F B k H, e = .returned (.tuple #[.agg #[.bool (rneg x), .slice A (limbs (rn x)).length c, .slice B (limbs x.den).length k], .int .i64 0]) ∧ F.Sl A c (limbs (rn x)) ∧ H.Sl B k (limbs x.den) ∧ New w w' F ∧ New w w' H
theorem rchk_x {x : Rat} (h : Bd 8192 x) : rchk (rneg x) (limbs (rn x)) (limbs x.den) = 0 := by
  unfold rchk
  rw [chk_limbs h.1, chk_limbs h.2, val_limbs, val_limbs, if_neg (by decide), if_neg (by decide), if_neg x.den_nz, if_neg]
  rintro (⟨h1, h2⟩ | h1)
  · exact rneg_ne h1 h2
  · exact h1 (rgcd x)
theorem fr_x (x : Rat) : fr (rneg x) (limbs (rn x)) (limbs x.den) = x := by
  unfold fr; rw [val_limbs, val_limbs, frac_self]
theorem outX_x {x : Rat} (h : Bd 8192 x) : outX x = (rneg x, rn x, x.den, 0) := by
  unfold outX outP; exact if_pos h
theorem sgn_sgz (x : Rat) : sgn x = sgz x := rfl
theorem flq_eq (s : Bool) (n d : Nat) : flq s n d = flq' s n d := rfl
theorem rdq_eq (n d : Nat) : rdq n d = rdq' n d := rfl
section
variable (A1 B1 A2 B2 : Option Addr) (c1 k1 c2 k2 : Nat) (x y : Rat)
theorem qAdd_x (z : Rat) (hx : Bd 8192 x) (hy : Bd 8192 y) (hz : Bd 8192 z) (e : x + y = z) (w : World) (h1 : SlW w A1 c1 (limbs (rn x))) (j1 : SlW w B1 k1 (limbs x.den)) (h2 : SlW w A2 c2 (limbs (rn y))) (j2 : SlW w B2 k2 (limbs y.den)) (hT : Tab w) :
    Calls Tryz.prog 12 #[.agg #[.bool (rneg x), .slice A1 (limbs (rn x)).length c1, .slice B1 (limbs x.den).length k1], .agg #[.bool (rneg y), .slice A2 (limbs (rn y)).length c2, .slice B2 (limbs y.den).length k2]] w (RX z w) := by
  subst e
  have := qAdd_any (rneg x) (rneg y) A1 B1 A2 B2 c1 k1 c2 k2 _ _ _ _ w h1 j1 h2 j2 hT
  rw [rchk_x hx, rchk_x hy, fr_x, fr_x, outX_x hz] at this
  exact this
theorem qSub_x (z : Rat) (hx : Bd 8192 x) (hy : Bd 8192 y) (hz : Bd 8192 z) (e : x - y = z) (w : World) (h1 : SlW w A1 c1 (limbs (rn x))) (j1 : SlW w B1 k1 (limbs x.den)) (h2 : SlW w A2 c2 (limbs (rn y))) (j2 : SlW w B2 k2 (limbs y.den)) (hT : Tab w) :
    Calls Tryz.prog 14 #[.agg #[.bool (rneg x), .slice A1 (limbs (rn x)).length c1, .slice B1 (limbs x.den).length k1], .agg #[.bool (rneg y), .slice A2 (limbs (rn y)).length c2, .slice B2 (limbs y.den).length k2]] w (RX z w) := by
  subst e
  have := qSub_any (rneg x) (rneg y) A1 B1 A2 B2 c1 k1 c2 k2 _ _ _ _ w h1 j1 h2 j2 hT
  rw [rchk_x hx, rchk_x hy, fr_x, fr_x, outX_x hz] at this
  exact this
theorem qMul_x (z : Rat) (hx : Bd 8192 x) (hy : Bd 8192 y) (hz : Bd 8192 z) (e : x * y = z) (w : World) (h1 : SlW w A1 c1 (limbs (rn x))) (j1 : SlW w B1 k1 (limbs x.den)) (h2 : SlW w A2 c2 (limbs (rn y))) (j2 : SlW w B2 k2 (limbs y.den)) (hT : Tab w) :
    Calls Tryz.prog 16 #[.agg #[.bool (rneg x), .slice A1 (limbs (rn x)).length c1, .slice B1 (limbs x.den).length k1], .agg #[.bool (rneg y), .slice A2 (limbs (rn y)).length c2, .slice B2 (limbs y.den).length k2]] w (RX z w) := by
  subst e
  have := qMul_any (rneg x) (rneg y) A1 B1 A2 B2 c1 k1 c2 k2 _ _ _ _ w h1 j1 h2 j2 hT
  rw [rchk_x hx, rchk_x hy, fr_x, fr_x, outX_x hz] at this
  exact this
theorem qDiv_x (z : Rat) (hx : Bd 8192 x) (hy : Bd 8192 y) (hz : Bd 8192 z) (h0 : rn y ≠ 0) (e : x / y = z) (w : World) (h1 : SlW w A1 c1 (limbs (rn x))) (j1 : SlW w B1 k1 (limbs x.den)) (h2 : SlW w A2 c2 (limbs (rn y))) (j2 : SlW w B2 k2 (limbs y.den)) (hT : Tab w) :
    Calls Tryz.prog 18 #[.agg #[.bool (rneg x), .slice A1 (limbs (rn x)).length c1, .slice B1 (limbs x.den).length k1], .agg #[.bool (rneg y), .slice A2 (limbs (rn y)).length c2, .slice B2 (limbs y.den).length k2]] w (RX z w) := by
  subst e
  have := qDiv_any (rneg x) (rneg y) A1 B1 A2 B2 c1 k1 c2 k2 _ _ _ _ w h1 j1 h2 j2 hT
  rw [rchk_x hx, rchk_x hy, fr_x, fr_x] at this
  unfold divX at this
  rw [val_limbs, if_neg h0, outX_x hz] at this
  exact this
theorem qDiv_z (hx : Bd 8192 x) (hy : Bd 8192 y) (h0 : rn y = 0) (w : World) (h1 : SlW w A1 c1 (limbs (rn x))) (j1 : SlW w B1 k1 (limbs x.den)) (h2 : SlW w A2 c2 (limbs (rn y))) (j2 : SlW w B2 k2 (limbs y.den)) (hT : Tab w) :
    Calls Tryz.prog 18 #[.agg #[.bool (rneg x), .slice A1 (limbs (rn x)).length c1, .slice B1 (limbs x.den).length k1], .agg #[.bool (rneg y), .slice A2 (limbs (rn y)).length c2, .slice B2 (limbs y.den).length k2]] w (RPE (false, 0, 0, 6) w) := by
  have := qDiv_any (rneg x) (rneg y) A1 B1 A2 B2 c1 k1 c2 k2 _ _ _ _ w h1 j1 h2 j2 hT
  rw [rchk_x hx, rchk_x hy, fr_x, fr_x] at this
  unfold divX at this
  rw [val_limbs, if_pos h0] at this
  exact this
theorem qCmp_x (z : Int) (hx : Bd 8192 x) (hy : Bd 8192 y) (e : sgz (x - y) = z) (w : World) (h1 : SlW w A1 c1 (limbs (rn x))) (j1 : SlW w B1 k1 (limbs x.den)) (h2 : SlW w A2 c2 (limbs (rn y))) (j2 : SlW w B2 k2 (limbs y.den)) (hT : Tab w) :
    Calls Tryz.prog 20 #[.agg #[.bool (rneg x), .slice A1 (limbs (rn x)).length c1, .slice B1 (limbs x.den).length k1], .agg #[.bool (rneg y), .slice A2 (limbs (rn y)).length c2, .slice B2 (limbs y.den).length k2]] w fun e w' => e = .returned (.tuple #[.int .i64 z, .int .i64 0]) ∧ Below w.heap.size w w' := by
  subst e
  have := qCmp_any (rneg x) (rneg y) A1 B1 A2 B2 c1 k1 c2 k2 _ _ _ _ w h1 j1 h2 j2 hT
  rw [rchk_x hx, rchk_x hy, fr_x, fr_x] at this
  exact this
theorem qNeg_x (z : Rat) (hx : Bd 8192 x) (e : -x = z) (w : World) (h1 : SlW w A1 c1 (limbs (rn x))) (j1 : SlW w B1 k1 (limbs x.den)) (hT : Tab w) :
    Calls Tryz.prog 10 #[.agg #[.bool (rneg x), .slice A1 (limbs (rn x)).length c1, .slice B1 (limbs x.den).length k1]] w (RX z w) := by
  subst e
  have := qNeg_any (rneg x) A1 B1 c1 k1 _ _ w h1 j1 hT
  have hl : decide (0 < (limbs (rn x)).length) = decide (rn x ≠ 0) := by
    have h0 : (limbs (rn x)).length = 0 ↔ rn x = 0 := by rw [List.length_eq_zero_iff, limbs_nil]
    by_cases h : rn x = 0
    · rw [decide_eq_false (by omega), decide_eq_false (by omega)]
    · rw [decide_eq_true (by omega), decide_eq_true (by omega)]
  have hb := hx.neg
  have e : outP (!rneg x && decide (rn x ≠ 0)) (rn x) x.den = (rneg (-x), rn (-x), (-x).den, 0) := by
    rw [← rneg_neg, ← rn_neg x, ← Rat.neg_den x]
    unfold outP
    rw [rn_neg, Rat.neg_den] at *
    exact if_pos hx
  rw [rchk_x hx, hl, val_limbs, val_limbs, e] at this
  exact this
theorem qFloor_x (z : Rat) (hx : Bd 8191 x) (e : (x.floor : Rat) = z) (w : World) (h1 : SlW w A1 c1 (limbs (rn x))) (j1 : SlW w B1 k1 (limbs x.den)) (hT : Tab w) :
    Calls Tryz.prog 35 #[.agg #[.bool (rneg x), .slice A1 (limbs (rn x)).length c1, .slice B1 (limbs x.den).length k1]] w (RX z w) := by
  subst e
  have := qFloor_any (rneg x) A1 B1 c1 k1 _ _ w h1 j1 hT
  obtain ⟨a, b, c⟩ := floor_int x
  have hb : rn (x.floor : Rat) < 2 ^ 8192 ∧ (x.floor : Rat).den < 2 ^ 8192 := hx.floor
  rw [rchk_x (hx.mono (by decide)), flq_eq, val_limbs, val_limbs, ← a, ← b, ← c] at this
  unfold outP at this
  rw [if_pos hb] at this
  exact this
theorem qRound_x (z : Rat) (hx : Bd 8189 x) (e : ((rndz x : Int) : Rat) = z) (w : World) (h1 : SlW w A1 c1 (limbs (rn x))) (j1 : SlW w B1 k1 (limbs x.den)) (hT : Tab w) :
    Calls Tryz.prog 36 #[.agg #[.bool (rneg x), .slice A1 (limbs (rn x)).length c1, .slice B1 (limbs x.den).length k1]] w (RX z w) := by
  subst e
  have := qRound_any (rneg x) A1 B1 c1 k1 _ _ w h1 j1 hT
  obtain ⟨a, b, c⟩ := rnd_parts x
  have hb : rn ((rndz x : Int) : Rat) < 2 ^ 8192 ∧ ((rndz x : Int) : Rat).den < 2 ^ 8192 := hx.rnd
  rw [rchk_x (hx.mono (by decide)), rdq_eq, val_limbs, val_limbs, ← a, ← b, ← c] at this
  unfold outP at this
  rw [if_pos hb] at this
  exact this
end
theorem qOf_x (a b : Int) (z : Rat) (hb : b ≠ 0) (hz : Bd 8192 z) (e : frac (decide (a < 0) != decide (b < 0)) a.natAbs b.natAbs = z) (h1 : -9223372036854775808 ≤ a) (h2 : a < 9223372036854775808) (h3 : -9223372036854775808 ≤ b) (h4 : b < 9223372036854775808) (w : World) (hT : Tab w) :
    Calls Tryz.prog 32 #[.int .i64 a, .int .i64 b] w (RX z w) := by
  have := qOf_any a b h1 h2 h3 h4 w hT
  unfold ofX at this
  rw [if_neg hb, e, outX_x hz] at this
  exact this
end Go.Proofs.YtjdnpkicdmapnaaGreatDoor
namespace Go.Proofs.YtjdnpkicdmapnaaGreatDoor
open Go.RowKit GW NL
theorem isone_any (A : Option Addr) (c : Nat) (v : Nat) (w : World) (h : SlW w A c (limbs v)) :
    Calls Tryz.prog 63 #[.slice A (limbs v).length c] w fun e w' => e = .returned (.bool (decide (v = 1))) ∧ w = w' := by
  have hm := h.len
  by_cases h1 : (limbs v).length = 1
  · obtain ⟨b, o, rfl, hcell⟩ := limW_cell h.lim (by omega)
    have e1 := hcell 0 (by omega)
    clear hcell h
    have hv : (limbs v).getD 0 0 = v := by
      have := val_limbs v
      obtain ⟨x, hx⟩ := List.length_eq_one_iff.1 h1
      rw [hx] at this ⊢
      simpa [val] using this
    rw [hv] at e1
    rw [h1]
    simp only [Nat.add_zero] at e1
    by_cases hx : v = 1
    · subst hx
      go_enter Tryz.func63, Tryz.ntmps63
      go_wp2_with fail
      go_ret
      exact ⟨rfl, rfl⟩
    · have hd : decide (v = 1) = false := decide_eq_false hx
      rw [hd]
      have hx1 : (((v : Nat) : Int) == 1) = false := by simp only [beq_eq_false_iff_ne, ne_eq]; omega
      clear hx hd hv h1 hm
      generalize ((v : Nat) : Int) = u at *
      go_enter Tryz.func63, Tryz.ntmps63
      go_wp2_with fail
      go_ret
      exact ⟨rfl, rfl⟩
  · have hv : v ≠ 1 := by
      rintro rfl
      rw [limbs_one (by decide) (by decide)] at h1
      exact h1 rfl
    rw [decide_eq_false hv]
    have hl1 : (((limbs v).length : Int) == 1) = false := by simp only [beq_eq_false_iff_ne, ne_eq]; omega
    generalize (limbs v).length = n at *
    go_enter Tryz.func63, Tryz.ntmps63
    go_wp2_with fail
    go_ret
    exact ⟨rfl, rfl⟩
theorem rOrder_any (A1 A2 : Option Addr) (c1 c2 a b : Nat) (w : World) (h1 : SlW w A1 c1 (limbs a)) (h2 : SlW w A2 c2 (limbs b)) (hl9 : (limbs a).length ≤ 1000000000) :
    Calls Tryz.prog 90 #[.slice A1 (limbs a).length c1, .slice A2 (limbs b).length c2] w fun e w' => e = .returned (.int .i64 (ord a b)) ∧ Below w.heap.size w w' := by
  refine calls_b fun g => ?_
  have C1 := Lib.hid (fun w h1 h2 => rcmp_any A1 A2 c1 c2 a b w h1 h2 hl9)
  generalize (limbs a).length = n1 at *
  generalize (limbs b).length = n2 at *
  generalize ord a b = r at *
  go_enter Tryz.func90, Tryz.ntmps90
  go_wp2_with (with_reducible refine G.any_mark _ ?_; (try generalize Array.size (World.heap (G.w _)) = bk); (try dsimp only [List.set_cons_zero, List.set_cons_succ]); (try clear g); intro g)
  refine (C1.out _ (G.sl g (by simp) h1) (G.sl g (by simp) h2)).mono ?_
  rintro e w1 ⟨rfl, hb⟩
  obtain ⟨g1, rfl⟩ := G.call_ex _ hb
  clear hb
  (try clear g)
  revert g1
  intro g
  go_wp2_with (with_reducible refine G.any_mark _ ?_; (try generalize Array.size (World.heap (G.w _)) = bk); (try dsimp only [List.set_cons_zero, List.set_cons_succ]); (try clear g); intro g)
  go_ret
  exact ⟨rfl, G.below _⟩
theorem rTimes_any (A1 A2 : Option Addr) (c1 c2 a b : Nat) (w : World) (h1 : SlW w A1 c1 (limbs a)) (h2 : SlW w A2 c2 (limbs b)) (hl1 : (limbs a).length ≤ 1000000000) (hl2 : (limbs b).length ≤ 1000000000) :
    Calls Tryz.prog 88 #[.slice A1 (limbs a).length c1, .slice A2 (limbs b).length c2] w (RNat (a * b) w) := by
  refine calls_b fun g => ?_
  have C1 := Lib.hid (fun w h1 h2 => rmul_any A1 A2 c1 c2 (limbs a) (limbs b) w h1 h2 hl1 hl2)
  rw [val_limbs, val_limbs] at C1
  generalize (limbs a).length = n1 at *
  generalize (limbs b).length = n2 at *
  generalize a * b = r at *
  go_enter Tryz.func88, Tryz.ntmps88
  go_wp2_with (with_reducible refine G.any_mark _ ?_; (try generalize Array.size (World.heap (G.w _)) = bk); (try dsimp only [List.set_cons_zero, List.set_cons_succ]); (try clear g); intro g)
  refine (C1.out _ (G.sl g (by simp) h1) (G.sl g (by simp) h2)).mono ?_
  rintro e w1 ⟨X, x, P, rfl, hx, hn⟩
  have ho := fun k o hk => Nat.le_trans (G.chg _).size (hn.new k o hk)
  obtain ⟨g1, rfl⟩ := G.new_ex _ hn
  clear hn
  (try clear g)
  revert g1
  intro g
  go_wp2_with (with_reducible refine G.any_mark _ ?_; (try generalize Array.size (World.heap (G.w _)) = bk); (try dsimp only [List.set_cons_zero, List.set_cons_succ]); (try clear g); intro g)
  go_ret
  exact ⟨X, x, P, rfl, hx, G.pass _ (by simp) ho⟩
theorem rone_any (w : World) : Calls Tryz.prog 73 #[] w (RNat 1 w) := by
  refine calls_b fun g => ?_
  go_enter Tryz.func73, Tryz.ntmps73
  go_wp2_with (with_reducible refine G.any_mark _ ?_; (try generalize Array.size (World.heap (G.w _)) = bk); (try dsimp only [List.set_cons_zero, List.set_cons_succ]); (try clear g); intro g)
  go_ret
  have h1 : limbs 1 = [1] := limbs_one (by decide) (by decide)
  refine ⟨some ⟨_, 0, none⟩, 1, _, by rw [h1]; rfl, ?_, g.give (List.mem_cons_self ..)⟩
  rw [h1]
  exact sl_blk (l := [1]) (by simp) (by decide) (by intro x hx; simp at hx; omega)
end Go.Proofs.YtjdnpkicdmapnaaGreatDoor
namespace Go.Proofs.YtjdnpkicdmapnaaGreatDoor
open Go.RowKit GW NL
set_option maxRecDepth 20000 in
set_option maxHeartbeats 2000000 in
theorem rodd_any (b o n cap : Nat) (cs : List Value) (l : List Nat) (w : World) (hb : w.heap[b]? = some (.cells cs.toArray 29 (0, 0))) (hs : Seg cs o l) (hn : l.length = n) (hcap : n ≤ cap) (hcap2 : cap ≤ 9223372036854775807) (hn9 : n ≤ 1000000000) (hk : Ok l) (h0 : val l ≠ 0) :
    Calls Tryz.prog 98 #[.slice (some ⟨b, o, none⟩) n cap] w (ROdd b o cap n (val l) cs.length w) := by
  refine calls_m hb fun g => ?_
  have hsl : SlW g.w (some ⟨b, o, none⟩) cap l := (hs.sl (by omega) hcap2 (by omega) hk).at (blkF_sub g.blk0)
  have C2 := Lib.hid (fun w h => rtwos_any (some ⟨b, o, none⟩) cap l w h h0)
  rw [hn] at C2
  have hq := tz_len hk h0
  have hod := od_split hk
  obtain ⟨t, ht⟩ : ∃ t, tz (val l) = t := ⟨_, rfl⟩
  rw [ht] at C2 hq hod
  obtain ⟨q, hqe⟩ : ∃ q, t / 32 = q := ⟨_, rfl⟩
  obtain ⟨r, hre⟩ : ∃ r, t % 32 = r := ⟨_, rfl⟩
  rw [hqe] at hq hod
  rw [hre] at hod
  have hr32 : r < 32 := by omega
  have hqi : Int.tdiv (t : Int) 32 = (q : Int) := by rw [Int.tdiv_eq_ediv_of_nonneg (by omega)]; omega
  have hri : Int.tmod (t : Int) 32 = (r : Int) := by rw [Int.tmod_eq_emod_of_nonneg (by omega)]; omega
  have hqi2 : (t : Int) / 32 = (q : Int) := by omega
  have hri2 : (t : Int) % 32 = (r : Int) := by omega
  have ht9 : t ≤ 32000000000 := by omega
  obtain ⟨n', hn'⟩ : ∃ n', n - q = n' := ⟨_, rfl⟩
  obtain ⟨o', ho'⟩ : ∃ o', o + q = o' := ⟨_, rfl⟩
  obtain ⟨c', hc'⟩ : ∃ c', cap - q = c' := ⟨_, rfl⟩
  have hsd := hs.drop q (by omega)
  have hok' := hk.drop q
  obtain ⟨l', hl'⟩ : ∃ l', l.drop q = l' := ⟨_, rfl⟩
  have hll : l'.length = n' := by rw [← hl', List.length_drop]; omega
  rw [hl'] at hsd hok' hod
  rw [ho'] at hsd
  have HQ := Lib.hid (show q < n by omega)
  have HO := Lib.hid ho'
  have HC := Lib.hid hc'
  have HLL := Lib.hid hll
  have HOD := Lib.hid hod
  have HSD := Lib.hid hsd
  have hqn : q < n := by omega
  have hqn2 : (q : Int) ≤ (n : Int) := by omega
  have hqc : q < cap := by omega
  have hn'9 : n' ≤ 1000000000 := by omega
  have hc'9 : n' ≤ c' := by omega
  have hc'8 : c' ≤ 9223372036854775807 := by omega
  have hr0 : ¬ ((r : Int) < 0) := by omega
  have hr1 : (0 : Int) ≤ (r : Int) := by omega
  clear hl' hll hod hsd hs hq hn hqe hre ht
  go_enter Tryz.func98, Tryz.ntmps98
  go_wp2_with (with_reducible refine G.any_mark _ ?_; (try generalize Array.size (World.heap (G.w _)) = bk); (try dsimp only [List.set_cons_zero, List.set_cons_succ]); (try clear g); intro g)
  refine (C2.out _ hsl).mono ?_
  rintro e w1 ⟨rfl, rfl⟩
  go_wp2_with (with_reducible refine G.any_mark _ ?_; (try generalize Array.size (World.heap (G.w _)) = bk); (try dsimp only [List.set_cons_zero, List.set_cons_succ]); (try clear g); intro g)
  go_loopg [4] n' (fun gk i wr => ∃ (k : Nat) (pre : List Nat) (cs' : List Value), k + gk = n' ∧ i = .int .i64 k ∧ pre.length = k ∧ Ok pre ∧ Hid (val pre = val l' / 2 ^ r % 4294967296 ^ k) ∧ Hid (Seg cs' o' (pre ++ l'.drop k)) ∧ cs'.length = cs.length ∧ ∃ g : G w [b] [(b, 29, cs')] [heapBut w b], wr = g.w)
  case atStart => exact ⟨0, [], cs, by omega, rfl, rfl, Ok.nil, Lib.hid (by simp [val, Nat.mod_one]), Lib.hid (by rw [List.drop_zero, List.nil_append]; exact HSD.out), rfl, g, rfl⟩
  case round =>
    clear g hsl
    obtain ⟨k, pre, cs', hkg, rfl, hp, hpo, HV, HS, hcl, g, rfl⟩ := hrel
    have HP := Lib.hid hp
    have HCL := Lib.hid hcl
    clear hp hcl
    have hLl : (pre ++ l'.drop k).length = n' := by rw [List.length_append, List.length_drop, HP.out, HLL.out]; omega
    have hLo : Ok (pre ++ l'.drop k) := hpo.append (hok'.drop k)
    have HSLg : Hid (∀ g : G w [b] [(b, 29, cs')] [heapBut w b], SlW g.w (some ⟨b, o', none⟩) c' (pre ++ l'.drop k)) := Lib.hid (fun g => (HS.out.sl (by omega) hc'8 (by omega) hLo).at (blkF_sub g.blk0))
    have HLn := Lib.hid hLl
    by_cases hk2 : k < n'
    · have e1 := HS.out.get k (by omega)
      rw [pre_get HP.out (Nat.le_refl _)] at e1
      have hx := hok'.getD k
      have hy := hok'.getD (k + 1)
      have dl := down_limb hok' k r hr32
      have st := Lib.hid (low_step HP.out HV.out dl)
      have e2 : k + 1 < n' → cs'[o' + (k + 1)]? = some (.int .u32 ((l'.getD (k + 1) 0 : Nat) : Int)) := fun h => by
        have := HS.out.get (k + 1) (by omega)
        rwa [pre_get HP.out (by omega)] at this
      have e3 : ¬ k + 1 < n' → l'.getD (k + 1) 0 = 0 := fun h => by
        rw [List.getD_eq_getElem?_getD, List.getElem?_eq_none (by rw [HLL.out]; omega)]; rfl
      have HS2 : ∀ z, Hid (Seg (cs'.set (o' + k) (.int .u32 ((z : Nat) : Int))) o' ((pre ++ [z]) ++ l'.drop (k + 1))) := fun z => Lib.hid (by
        rw [← pre_set HP.out (by rw [HLL.out]; exact hk2)]
        exact HS.out.set (by rw [HLn.out]; exact hk2) z)
      have hr : (l'.getD k 0 + 4294967296 * l'.getD (k + 1) 0) / 2 ^ r % 4294967296 < 4294967296 := Nat.mod_lt _ (by decide)
      clear dl hLl
      generalize l'.getD k 0 = x at *
      generalize l'.getD (k + 1) 0 = y at *
      have ht : x + 4294967296 * y < 18446744073709551616 := by omega
      have hor : bits .or .u64 (x : Int) ((y : Int) * 4294967296) = ((x + 4294967296 * y : Nat) : Int) := by
        rw [show (y : Int) * 4294967296 = ((y * 4294967296 : Nat) : Int) by omega, K3.or64_add _ _ 32 (by omega) (by omega) (by omega) (by omega)]
        omega
      have hw1 : IntKind.u64.wrap (x : Int) = (x : Int) := by rw [IntKind.wrap_u64]; omega
      have hw2 : IntKind.u64.wrap (y : Int) = (y : Int) := by rw [IntKind.wrap_u64]; omega
      have hw3 : IntKind.u64.wrap ((y : Int) * 4294967296) = (y : Int) * 4294967296 := by rw [IntKind.wrap_u64]; omega
      obtain ⟨tt, htt⟩ : ∃ t, x + 4294967296 * y = t := ⟨_, rfl⟩
      rw [htt] at hor ht st hr
      obtain ⟨z, hz⟩ : ∃ z, tt / 2 ^ r % 4294967296 = z := ⟨_, rfl⟩
      rw [hz] at st hr
      have he1 : (tt : Int) / 2 ^ r % 4294967296 = (z : Int) := by
        rw [← hz, show (tt : Int) / 2 ^ r = ((tt / 2 ^ r : Nat) : Int) by rw [Int.natCast_ediv, Int.natCast_pow]; rfl]
        omega
      have he2 : IntKind.u32.wrap ((tt : Int) / 2 ^ r) = (z : Int) := by rw [IntKind.wrap_u32]; exact he1
      have HS3 := HS2 z
      have hcl2 : Hid ((cs'.set (o' + k) (.int .u32 ((z : Nat) : Int))).length = cs.length) := Lib.hid (by rw [List.length_set]; exact HCL.out)
      clear hz ht HS2
      have hi2 : (k : Int) < (n' : Int) := by omega
      have hi3 : IntKind.i64.wrap ((k : Int) + 1) = (k : Int) + 1 := by rw [IntKind.wrap_i64]; omega
      generalize pre ++ l'.drop k = L at *
      by_cases hk3 : k + 1 < n'
      · have e4 := e2 hk3
        have hi4 : (k : Int) + 1 < (n' : Int) := by omega
        have hr9 := Lib.hid hr
        have HTT := Lib.hid htt
        clear e2 e3 hr htt
        go_wp2_with (with_reducible refine G.any_mark _ ?_; (try generalize Array.size (World.heap (G.w _)) = bk); (try dsimp only [List.set_cons_zero, List.set_cons_succ]); (try clear g); intro g)
        go_roundg (gk - 1)
        case measure => omega
        case rel => exact ⟨k + 1, pre ++ [z], _, by omega, by go_num, by rw [List.length_append, HP.out]; rfl, hpo.append (Ok.cons hr9.out Ok.nil), st, HS3, hcl2.out, g, rfl⟩
      · have hy0 := e3 hk3
        have hi4 : ¬ ((k : Int) + 1 < (n' : Int)) := by omega
        have hxt : x = tt := by omega
        have hr9 := Lib.hid hr
        clear e2 e3 hr htt hw2 hw3 hor hy0
        subst hxt
        go_wp2_with (with_reducible refine G.any_mark _ ?_; (try generalize Array.size (World.heap (G.w _)) = bk); (try dsimp only [List.set_cons_zero, List.set_cons_succ]); (try clear g); intro g)
        go_roundg (gk - 1)
        case measure => omega
        case rel => exact ⟨k + 1, pre ++ [z], _, by omega, by go_num, by rw [List.length_append, HP.out]; rfl, hpo.append (Ok.cons hr9.out Ok.nil), st, HS3, hcl2.out, g, rfl⟩
    · obtain rfl : k = n' := by omega
      have hv : val (pre ++ l'.drop k) = od (val l) := by
        rw [HOD.out, List.drop_of_length_le (by rw [HLL.out]; exact Nat.le_refl _), List.append_nil]
        exact down_end hok' (n := k) (by rw [HLL.out]; exact Nat.le_refl _) HV.out
      have hst := HS.out.trim hLo
      rw [hv] at hst
      have hst := HS.out.trim hLo
      rw [hv] at hst
      have hlo9 : Hid (q + (limbs (od (val l))).length ≤ n) := Lib.hid (by have := limbs_len_le_of_ok hLo; rw [hv, HLn.out] at this; omega)
      have HST := Lib.hid hst
      have hV0 := od_pos h0
      generalize pre ++ l'.drop k = L at *
      obtain ⟨V, hVe⟩ : ∃ V, od (val l) = V := ⟨_, rfl⟩
      rw [hVe] at hv hst hlo9 HST hV0
      have HVE := Lib.hid hVe
      have HV0 := Lib.hid hV0
      have HVL := Lib.hid hv
      clear hst hv hLl hV0 HSLg hVe
      go_wp2_with (with_reducible refine G.any_mark _ ?_; (try generalize Array.size (World.heap (G.w _)) = bk); (try dsimp only [List.set_cons_zero, List.set_cons_succ]); (try clear g); intro g)
      go_loopg [0] k (fun gk s0 wr => gk ≤ k ∧ s0 = .slice (some ⟨b, o', none⟩) gk c' ∧ Hid (val (L.take gk) = V) ∧ ∃ g : G w [b] [(b, 29, cs')] [heapBut w b], wr = g.w)
      case atStart => exact ⟨Nat.le_refl _, rfl, Lib.hid (by rw [List.take_of_length_le (by rw [HLn.out]; exact Nat.le_refl _)]; exact HVL.out), g, rfl⟩
      case round =>
        clear g
        obtain ⟨hj, rfl, HVJ, g, rfl⟩ := hrel
        have hj0 : 0 < gk := by
          rcases Nat.eq_zero_or_pos gk with h | h
          · exfalso; apply HV0.out; rw [← HVJ.out, h, List.take_zero]; rfl
          · exact h
        have e1 := HS.out.get (gk - 1) (by rw [HLn.out]; omega)
        have hji : ((gk - 1 : Nat) : Int) = (gk : Int) - 1 := by omega
        have hj1 : (0 : Int) ≤ (gk : Int) - 1 := by omega
        have hj2 : (gk : Int) - 1 < (gk : Int) := by omega
        by_cases hx : L.getD (gk - 1) 0 = 0
        · have hv' : val (L.take (gk - 1)) = V := by
            rw [← HVJ.out]
            have := val_take_getD L (gk - 1)
            rw [show gk - 1 + 1 = gk by omega, hx] at this
            omega
          have HV' := Lib.hid hv'
          have hx1 : (((L.getD (gk - 1) 0 : Nat) : Int) == 0) = true := by simp only [hx]; rfl
          clear hv' hx
          generalize ((L.getD (gk - 1) 0 : Nat) : Int) = v at *
          go_wp2_with (with_reducible refine G.any_mark _ ?_; (try generalize Array.size (World.heap (G.w _)) = bk); (try dsimp only [List.set_cons_zero, List.set_cons_succ]); (try clear g); intro g)
          go_roundg (gk - 1)
          case measure => omega
          case rel => exact ⟨by omega, rfl, HV', g, rfl⟩
        · have hlen : (limbs V).length = gk := by
            have hl : (L.take gk).length = gk := by rw [List.length_take, HLn.out]; omega
            have t : Trim (L.take gk) := by
              intro j hj
              rw [hl] at hj
              rw [getD_take (by omega), show j = gk - 1 by omega]
              exact hx
            rw [← HVJ.out, limbs_val (hLo.take gk) t, hl]
          have HLE := Lib.hid hlen
          have hx1 : (((L.getD (gk - 1) 0 : Nat) : Int) == 0) = false := by simp only [beq_eq_false_iff_ne, ne_eq]; omega
          clear hlen hx
          generalize ((L.getD (gk - 1) 0 : Nat) : Int) = v at *
          go_wp2_with (with_reducible refine G.any_mark _ ?_; (try generalize Array.size (World.heap (G.w _)) = bk); (try dsimp only [List.set_cons_zero, List.set_cons_succ]); (try clear g); intro g)
          go_ret
          exact ⟨q, cs', by rw [HVE.out, HO.out, HC.out, HLE.out]; rfl, HQ.out, by rw [HVE.out]; exact hlo9.out, g.chg, g.blk0, by rw [HVE.out, HO.out]; exact HST.out, HCL.out⟩
end Go.Proofs.YtjdnpkicdmapnaaGreatDoor
namespace Go.Proofs.YtjdnpkicdmapnaaGreatDoor
open Go.RowKit GW NL
theorem own_seg (A : Option Addr) (c : Nat) (l : List Nat) (w : World) (h : SlW w A c l) (hl9 : l.length ≤ 35184372088832) (hl : 0 < l.length) :
    Calls Tryz.prog 9 #[.slice A l.length c] w (fun e w' => ∃ b cap cs, e = .returned (.slice (some ⟨b, 0, none⟩) l.length cap) ∧ l.length ≤ cap ∧ cap ≤ 9223372036854775807 ∧ Seg cs 0 l ∧ Below w.heap.size w w' ∧ w.heap.size ≤ b ∧ w'.heap[b]? = some (.cells cs.toArray 29 (0, 0))) := by
  refine (own_own A c l w h hl9 hl).mono ?_
  rintro e w' ⟨b, cap, cs, rfl, hr, hb, hb2, hh⟩
  exact ⟨b, cap, cs, rfl, hr.le, hr.max, Row.seg hr rfl, hb, hb2, hh⟩
theorem ord_eq {a b : Nat} (h : ord a b = 0) : a = b := by
  unfold ord at h; split at h
  · cases h
  · split at h
    · cases h
    · omega
theorem ord_neg {a b : Nat} (h : a < b) : ord a b < 0 := by unfold ord; rw [if_pos h]; decide
theorem ord_pos {a b : Nat} (h : b < a) : ord a b = 1 := by unfold ord; rw [if_neg (by omega), if_pos h]
/-- a limb's difference in 64 bits -/
theorem sub64 {x y c : Nat} (hx : x < 4294967296) (hy : y < 4294967296) (hc : c ≤ 1) :
    (IntKind.u64.wrap (IntKind.u64.wrap ((x : Int) - (c : Int)) - (y : Int)) % 4294967296 = (((x + 4294967296 - y - c) % 4294967296 : Nat) : Int) ∧ IntKind.u32.wrap (IntKind.u64.wrap (IntKind.u64.wrap ((x : Int) - (c : Int)) - (y : Int))) = (((x + 4294967296 - y - c) % 4294967296 : Nat) : Int) ∧ IntKind.u64.wrap (IntKind.u64.wrap ((x : Int) - (c : Int)) - (y : Int)) / 9223372036854775808 = ((brw x y c : Nat) : Int)) ∧
    (y = 0 → IntKind.u64.wrap ((x : Int) - (c : Int)) % 4294967296 = (((x + 4294967296 - y - c) % 4294967296 : Nat) : Int) ∧ IntKind.u32.wrap (IntKind.u64.wrap ((x : Int) - (c : Int))) = (((x + 4294967296 - y - c) % 4294967296 : Nat) : Int) ∧ IntKind.u64.wrap ((x : Int) - (c : Int)) / 9223372036854775808 = ((brw x y c : Nat) : Int)) := by
  simp only [IntKind.wrap_u64, IntKind.wrap_u32]
  unfold brw
  refine ⟨⟨by omega, by omega, by split <;> omega⟩, fun h => ⟨by omega, by omega, by split <;> omega⟩⟩
set_option maxRecDepth 20000 in
set_option maxHeartbeats 4000000 in
theorem rgcd_main (F0 : Frag) (A1 A2 : Option Addr) (c1 c2 a b : Nat) (w : World) (hF : F0.sub w) (h1 : F0.Sl A1 c1 (limbs a)) (h2 : F0.Sl A2 c2 (limbs b)) (ha : a ≠ 0) (hb : b ≠ 0) (hl1 : (limbs a).length ≤ 100000000) (hl2 : (limbs b).length ≤ 100000000) :
    Calls Tryz.prog 64 #[.slice A1 (limbs a).length c1, .slice A2 (limbs b).length c2] w (RAli F0 (Nat.gcd a b) w) := by
  refine calls_f hF fun g => ?_
  obtain ⟨la1, la2⟩ := limbs_ne ha
  obtain ⟨lb1, lb2⟩ := limbs_ne hb
  have CC1 := Lib.hid (fun w h => own_seg A1 c1 (limbs a) w h (by omega) la2)
  have CC2 := Lib.hid (fun w h => own_seg A2 c2 (limbs b) w h (by omega) lb2)
  have HA := Lib.hid ha
  have HB := Lib.hid hb
  have oda := od_spec a ha
  have odb := od_spec b hb
  have HOA := Lib.hid oda.2
  have HOB := Lib.hid odb.2
  clear ha hb oda odb
  generalize hla : (limbs a).length = la at *
  generalize hlb : (limbs b).length = lb at *
  have HLA := Lib.hid hla
  have HLB := Lib.hid hlb
  clear hla hlb
  go_enter Tryz.func64, Tryz.ntmps64
  go_wp2_with (with_reducible refine G.any_mark _ ?_; (try generalize Array.size (World.heap (G.w _)) = bk); (try dsimp only [List.set_cons_zero, List.set_cons_succ]); (try clear g); intro g)
  refine (CC1.out _ (G.sl g (by simp) h1)).mono ?_
  rintro e w1 ⟨bx, capx, csx, rfl, hcx, hcx9, hsx, hbe, hfr, hbl⟩
  obtain ⟨g1, rfl⟩ := G.own_ex g hbe hfr hbl
  clear hbe hfr hbl
  (try clear g)
  revert g1
  intro g
  go_wp2_with (with_reducible refine G.any_mark _ ?_; (try generalize Array.size (World.heap (G.w _)) = bk); (try dsimp only [List.set_cons_zero, List.set_cons_succ]); (try clear g); intro g)
  refine (CC2.out _ (G.sl g (by simp) h2)).mono ?_
  rintro e w1 ⟨bY, capy, csy, rfl, hcy, hcy9, hsy, hbe, hfr, hbl⟩
  obtain ⟨g1, rfl⟩ := G.own_ex g hbe hfr hbl
  clear hbe hfr hbl
  (try clear g)
  revert g1
  intro g
  have hbx : w.heap.size ≤ bx := g.fresh (m := (bx, 29, csx)) (by simp)
  have hbY : w.heap.size ≤ bY := g.fresh (m := (bY, 29, csy)) (by simp)
  have CT1 := Lib.hid (fun w h => (by
    have := rtwos_any (some ⟨bx, 0, none⟩) capx (limbs a) w h (by rw [val_limbs]; exact HA.out)
    rw [val_limbs, HLA.out] at this
    exact this : Calls Tryz.prog 97 #[.slice (some ⟨bx, 0, none⟩) la capx] w fun e w' => e = .returned (.int .i64 (tz a : Nat)) ∧ w = w'))
  have CT2 := Lib.hid (fun w h => (by
    have := rtwos_any (some ⟨bY, 0, none⟩) capy (limbs b) w h (by rw [val_limbs]; exact HB.out)
    rw [val_limbs, HLB.out] at this
    exact this : Calls Tryz.prog 97 #[.slice (some ⟨bY, 0, none⟩) lb capy] w fun e w' => e = .returned (.int .i64 (tz b : Nat)) ∧ w = w'))
  have hka := HA.out
  have hsl1 : SlW g.w (some ⟨bx, 0, none⟩) capx (limbs a) := (hsx.sl (by rw [HLA.out]; exact hcx) hcx9 (by rw [HLA.out]; omega) (ok_limbs a)).at (blkF_sub g.blk1)
  have hsl2 : SlW g.w (some ⟨bY, 0, none⟩) capy (limbs b) := (hsy.sl (by rw [HLB.out]; exact hcy) hcy9 (by rw [HLB.out]; omega) (ok_limbs b)).at (blkF_sub g.blk0)
  clear hka
  generalize hta : tz a = ta at *
  generalize htb : tz b = tb at *
  have HTA := Lib.hid hta
  have HTB := Lib.hid htb
  clear hta htb
  go_wp2_with (with_reducible refine G.any_mark _ ?_; (try generalize Array.size (World.heap (G.w _)) = bk); (try dsimp only [List.set_cons_zero, List.set_cons_succ]); (try clear g); intro g)
  refine (CT1.out _ hsl1).mono ?_
  rintro e w1 ⟨rfl, rfl⟩
  go_wp2_with (with_reducible refine G.any_mark _ ?_; (try generalize Array.size (World.heap (G.w _)) = bk); (try dsimp only [List.set_cons_zero, List.set_cons_succ]); (try clear g); intro g)
  refine (CT2.out _ hsl2).mono ?_
  rintro e w1 ⟨rfl, rfl⟩
  clear hsl1 hsl2
  have HSX := Lib.hid hsx
  have HSY := Lib.hid hsy
  clear hsx hsy
  obtain ⟨K, hK⟩ : ∃ K, min ta tb = K := ⟨_, rfl⟩
  have hmin : min (ta : Int) (tb : Int) = (K : Int) := by omega
  have HK := Lib.hid hK
  have CO1 := Lib.hid (fun w hb => (by
    have := rodd_any bx 0 la capx csx (limbs a) w hb HSX.out HLA.out hcx hcx9 (by omega) (ok_limbs a) (by rw [val_limbs]; exact HA.out)
    rw [val_limbs] at this
    exact this : Calls Tryz.prog 98 #[.slice (some ⟨bx, 0, none⟩) la capx] w (ROdd bx 0 capx la a csx.length w)))
  have CO2 := Lib.hid (fun w hb => (by
    have := rodd_any bY 0 lb capy csy (limbs b) w hb HSY.out HLB.out hcy hcy9 (by omega) (ok_limbs b) (by rw [val_limbs]; exact HB.out)
    rw [val_limbs] at this
    exact this : Calls Tryz.prog 98 #[.slice (some ⟨bY, 0, none⟩) lb capy] w (ROdd bY 0 capy lb b csy.length w)))
  clear hK
  go_wp2_with (with_reducible refine G.any_mark _ ?_; (try generalize Array.size (World.heap (G.w _)) = bk); (try dsimp only [List.set_cons_zero, List.set_cons_succ]); (try clear g); intro g)
  refine (CO1.out _ g.blk1).mono ?_
  rintro e w1 ⟨qx, csx', rfl, hqx, hqx2, hch, hhb, hsx, hcl⟩
  obtain ⟨g1, rfl⟩ := G.mut1 g hch hhb
  clear hch hhb CO1 hcl
  (try clear g)
  revert g1
  intro g
  rw [Nat.zero_add] at hsx
  rw [Nat.zero_add]
  go_wp2_with (with_reducible refine G.any_mark _ ?_; (try generalize Array.size (World.heap (G.w _)) = bk); (try dsimp only [List.set_cons_zero, List.set_cons_succ]); (try clear g); intro g)
  refine (CO2.out _ g.blk0).mono ?_
  rintro e w1 ⟨qy, csy', rfl, hqy, hqy2, hch, hhb, hsy, hcl⟩
  obtain ⟨g1, rfl⟩ := G.mut0 g hch hhb
  clear hch hhb CO2 hcl HSX HSY CT1 CT2
  (try clear g)
  revert g1
  intro g
  rw [Nat.zero_add] at hsy
  rw [Nat.zero_add]
  have hpx : (limbs (od a)).length ≤ capx - qx := by omega
  have hpy : (limbs (od b)).length ≤ capy - qy := by omega
  have hpx9 : capx - qx ≤ 9223372036854775807 := by omega
  have hpy9 : capy - qy ≤ 9223372036854775807 := by omega
  have hlx : (limbs (od a)).length ≤ 100000000 := by omega
  have hly : (limbs (od b)).length ≤ 100000000 := by omega
  have CC := Lib.hid (fun w h1 h2 => rOrder_any (some ⟨bx, qx, none⟩) (some ⟨bY, qy, none⟩) (capx - qx) (capy - qy) (od a) (od b) w h1 h2 (by omega))
  have hslx : SlW g.w (some ⟨bx, qx, none⟩) (capx - qx) (limbs (od a)) := (hsx.sl hpx hpx9 (by omega) (ok_limbs _)).at (blkF_sub g.blk1)
  have hsly : SlW g.w (some ⟨bY, qy, none⟩) (capy - qy) (limbs (od b)) := (hsy.sl hpy hpy9 (by omega) (ok_limbs _)).at (blkF_sub g.blk0)
  have HSX := Lib.hid hsx
  have HSY := Lib.hid hsy
  clear hsx hsy hqx hqx2 hqy hqy2 hcx hcx9 hcy hcy9
  obtain ⟨ox, rfl⟩ : ∃ ox, ox = qx := ⟨_, rfl⟩
  obtain ⟨oy, rfl⟩ : ∃ oy, oy = qy := ⟨_, rfl⟩
  obtain ⟨px, hpxe⟩ : ∃ px, capx - ox = px := ⟨_, rfl⟩
  obtain ⟨py, hpye⟩ : ∃ py, capy - oy = py := ⟨_, rfl⟩
  rw [hpxe] at CC hslx hpx hpx9 ⊢
  rw [hpye] at CC hsly hpy hpy9 ⊢
  clear hpxe hpye
  obtain ⟨X0, hX0⟩ : ∃ X0, od a = X0 := ⟨_, rfl⟩
  obtain ⟨Y0, hY0⟩ : ∃ Y0, od b = Y0 := ⟨_, rfl⟩
  rw [hX0] at CC hslx hpx hlx HSX HOA ⊢
  rw [hY0] at CC hsly hpy hly HSY HOB ⊢
  have HX0 := Lib.hid hX0
  have HY0 := Lib.hid hY0
  clear hX0 hY0
  go_wp2_with (with_reducible refine G.any_mark _ ?_; (try generalize Array.size (World.heap (G.w _)) = bk); (try dsimp only [List.set_cons_zero, List.set_cons_succ]); (try clear g); intro g)
  refine (CC.out _ hslx hsly).mono ?_
  rintro e w1 ⟨rfl, hb⟩
  obtain ⟨g1, rfl⟩ := G.call_ex _ hb
  clear hb hslx hsly CC
  (try clear g)
  revert g1
  intro g
  obtain ⟨g2, hg2⟩ := g.perm (List.Perm.swap _ _ _)
  rw [hg2]
  clear hg2 g
  revert g2
  intro g
  go_wp2_with (with_reducible refine G.any_mark _ ?_; (try generalize Array.size (World.heap (G.w _)) = bk); (try dsimp only [List.set_cons_zero, List.set_cons_succ]); (try clear g); intro g)
  go_loopg [5, 6, 8] (X0 + Y0) (fun gk s5 s6 s8 wr => ∃ (X Y bx ox px bY oy py : Nat) (csx csy : List Value), s5 = .slice (some ⟨bx, ox, none⟩) (limbs X).length px ∧ s6 = .slice (some ⟨bY, oy, none⟩) (limbs Y).length py ∧ s8 = .int .i64 (ord X Y) ∧ X + Y ≤ gk ∧ Hid (X % 2 = 1 ∧ Y % 2 = 1 ∧ Nat.gcd X Y = Nat.gcd X0 Y0) ∧ (limbs X).length ≤ px ∧ px ≤ 9223372036854775807 ∧ (limbs X).length ≤ 100000000 ∧ (limbs Y).length ≤ py ∧ py ≤ 9223372036854775807 ∧ (limbs Y).length ≤ 100000000 ∧ Hid (Seg csx ox (limbs X)) ∧ Hid (Seg csy oy (limbs Y)) ∧ w.heap.size ≤ bx ∧ w.heap.size ≤ bY ∧ ∃ g : G w [] [(bx, 29, csx), (bY, 29, csy)] [F0], wr = g.w)
  case atStart => exact ⟨X0, Y0, bx, ox, px, bY, oy, py, _, _, rfl, rfl, rfl, Nat.le_refl _, Lib.hid ⟨HOA.out, HOB.out, rfl⟩, hpx, hpx9, hlx, hpy, hpy9, hly, HSX, HSY, hbx, hbY, g, rfl⟩
  case round =>
    clear g hbx hbY HSX HSY hpx hpx9 hlx hpy hpy9 hly HOA HOB
    obtain ⟨ko, rfl⟩ : ∃ ko, ko = gk := ⟨_, rfl⟩
    obtain ⟨X, Y, ux, ox, px, uy, oy, py, csx, csy, rfl, rfl, rfl, hgk, HI, hpx, hpx9, hlx, hpy, hpy9, hly, HSX, HSY, hux, huy, g, rfl⟩ := hrel
    by_cases heq : X = Y
    · subst heq
      have hXg : X = Nat.gcd X0 Y0 := by
        have := HI.out.2.2
        rwa [Nat.gcd_self] at this
      have hX0 : X ≠ 0 := by have := HI.out.1; omega
      have hlc : ord X X = 0 := ord_self X
      rw [hlc]
      have hres : X * 2 ^ K = Nat.gcd a b := by
        rw [gcd_parts HA.out HB.out, HTA.out, HTB.out, HX0.out, HY0.out, HK.out, ← hXg]
      clear hlc
      have hale : Nat.gcd a b ≤ a := Nat.gcd_le_left b (Nat.pos_of_ne_zero HA.out)
      have hgl : (limbs (Nat.gcd a b)).length ≤ 100000000 := Nat.le_trans (limbs_len_mono hale) (by rw [HLA.out]; exact hl1)
      have hg0 : Nat.gcd a b ≠ 0 := by rw [← hres]; exact Nat.mul_ne_zero hX0 (Nat.ne_of_gt (Nat.two_pow_pos K))
      obtain ⟨D, hD⟩ : ∃ D, Nat.gcd a b = D := ⟨_, rfl⟩
      rw [hD] at hres hgl hg0
      have HD := Lib.hid hD
      have HGL := Lib.hid hgl
      have HG0 := Lib.hid hg0
      have hslX : (blkF ux (.cells csx.toArray 29 (0, 0))).Sl (some ⟨ux, ox, none⟩) px (limbs X) := HSX.out.sl hpx hpx9 (by omega) (ok_limbs X)
      have hovX : (blkF ux (.cells csx.toArray 29 (0, 0))).over F0 w := fun k o hk => .inr (by rw [blkF_at hk]; exact hux)
      obtain ⟨g2, hg2⟩ := g.less (M' := [(ux, 29, csx)]) (by simp)
      rw [hg2]
      clear hg2 g
      revert g2
      intro g
      obtain ⟨g2, hg2⟩ := g.frz hux
      rw [hg2]
      clear hg2 g
      revert g2
      intro g
      generalize blkF ux (.cells csx.toArray 29 (0, 0)) = F at *
      have HRES := Lib.hid hres
      have HSLX := Lib.hid hslX
      have HOVX := Lib.hid hovX
      clear hres hslX hovX hale hgl hg0 hD hXg HI hX0 HSX HSY hux huy hpx hpx9 hlx hpy hpy9 hly
      generalize (some (⟨ux, ox, none⟩ : Addr)) = AX at *
      have hK9 : K ≤ 3200000000 := by
        have h5 := tz_len (ok_limbs a) (by rw [val_limbs]; exact HA.out)
        rw [val_limbs, HTA.out, HLA.out] at h5
        have h6 := HK.out
        omega
      obtain ⟨i0, hi, hz0, hz1, hz2⟩ := info_parts infoU32
      clear hmin HK HTA HTB HLA HLB HX0 HY0 HA HB CC1 CC2
      go_wp2_with (with_reducible refine G.any_mark _ ?_; (try generalize Array.size (World.heap (G.w _)) = bk); (try dsimp only [List.set_cons_zero, List.set_cons_succ]); (try clear g); intro g)
      obtain ⟨tw, rfl⟩ : ∃ tw, tw = bk := ⟨_, rfl⟩
      go_loopg [5, 7] (K / 32) (fun gk s5 s7 wr => ∃ (V K' : Nat) (A : Option Addr) (c : Nat) (F : Frag), s5 = .slice A (limbs V).length c ∧ s7 = .int .i64 K' ∧ K' / 32 = gk ∧ K' ≤ 3200000000 ∧ Hid (V * 2 ^ K' = D) ∧ Hid (F.Sl A c (limbs V)) ∧ Hid (F.over F0 w) ∧ ∃ g : G w [] [(tw, 29, [.int .u32 2])] [F, F0], wr = g.w)
      case atStart => exact ⟨X, K, AX, px, F, rfl, rfl, rfl, hK9, HRES, HSLX, HOVX, g, rfl⟩
      case round =>
        clear g HRES HSLX HOVX hK9
        obtain ⟨k3, rfl⟩ : ∃ k3, k3 = gk := ⟨_, rfl⟩
        obtain ⟨V, K', A, c, F, rfl, rfl, hgk3, hK9, HR, HS, HO, g, rfl⟩ := hrel
        have hV0 : V ≠ 0 := by rintro rfl; exact HG0.out (by rw [← HR.out, Nat.zero_mul])
        have hVD : V ≤ D := by rw [← HR.out]; exact Nat.le_mul_of_pos_right _ (Nat.two_pow_pos K')
        have hVl : (limbs V).length ≤ 100000000 := Nat.le_trans (limbs_len_mono hVD) HGL.out
        have hVp : 0 < (limbs V).length := (limbs_ne hV0).2
        by_cases h32 : 32 ≤ K'
        · have hi32 : (32 : Int) ≤ (K' : Int) := by omega
          have hw32 : IntKind.i64.wrap ((K' : Int) - 32) = (K' : Int) - 32 := by rw [IntKind.wrap_i64]; omega
          have hrow1 : Row 29 1 1 (u32s [0]) 1 (u32s [0]) := ⟨Nat.le_refl _, by decide, rfl, rfl, rfl⟩
          have hsh := limbs_shift hV0 1
          rw [Nat.pow_one] at hsh
          have HSH := Lib.hid hsh
          have hlV : (limbs (V * 4294967296)).length = 1 + (limbs V).length := by rw [← hsh, List.length_append, List.length_replicate]
          have HLV := Lib.hid hlV
          have HUP : Hid (0 < (u32s (limbs V)).length) := Lib.hid (by rw [u32s_len]; exact hVp)
          have hR2 : V * 4294967296 * 2 ^ (K' - 32) = D := by
            rw [← HR.out, Nat.mul_assoc]
            congr 1
            rw [show (4294967296 : Nat) = 2 ^ 32 from rfl, ← Nat.pow_add]
            congr 1
            omega
          have HR2 := Lib.hid hR2
          have HVP := Lib.hid hVp
          have HB9 : Hid (1 + (limbs V).length ≤ maxLen ∧ (1 + (limbs V).length) * 4 ≤ 140737488355328) := Lib.hid ⟨by show _ ≤ 9223372036854775807; omega, by omega⟩
          clear hsh hlV hR2 hV0 hVD hVp
          go_wp2_with (first | (with_reducible refine G.any_mark _ ?_; (try generalize Array.size (World.heap (G.w _)) = bk); (try dsimp only [List.set_cons_zero, List.set_cons_succ]); (try clear g); intro g) | (at_builtin; refine wpList_append_rowx rfl _ _ 23 22 rfl 29 i0 _ 1 4 Tryz.underlying23 Tryz.underlying22 hi hz0 hz1 hz2 rfl (by decide) g hrow1 (g.fresh (List.mem_cons_self ..)) rfl (limbs V).length c (u32s (limbs V)) A rfl (by rw [u32s_len, Nat.mul_one]) (lim_src g (by simp) HS.out.lim HUP.out) (u32s_one _) HVP.out HB9.out.1 HB9.out.2 ?_; clear g; intro b2 cap2 cs2 g hb2 hr2))
          have HSH2 : [0] ++ limbs V = limbs (V * 4294967296) := HSH.out
          rw [← u32s_append, HSH2] at hr2
          have hsl2 := sl_row (b := b2) hr2 HLV.out (by omega) (ok_limbs _)
          obtain ⟨g2, hg2⟩ := g.frz hb2
          obtain ⟨g3, hg3⟩ := g2.lessI (I' := [blkF b2 (.cells cs2.toArray 29 (0, 0)), F0]) (by simp)
          go_roundg (k3 - 1)
          case measure => omega
          case rel => exact ⟨V * 4294967296, K' - 32, _, _, _, by rw [HLV.out], by congr 1; omega, by omega, by omega, HR2, Lib.hid hsl2, Lib.hid (fun k o hk => .inr (by rw [blkF_at hk]; exact hb2)), g3, hg2.trans hg3⟩
        · have hi32 : ¬ (32 : Int) ≤ (K' : Int) := by omega
          clear hV0 hVD hVl hVp
          go_wp2_with (with_reducible refine G.any_mark _ ?_; (try generalize Array.size (World.heap (G.w _)) = bk); (try dsimp only [List.set_cons_zero, List.set_cons_succ]); (try clear g); intro g)
          go_loopg [5, 7] K' (fun gk s5 s7 wr => ∃ (V : Nat) (A : Option Addr) (c : Nat) (F : Frag), s5 = .slice A (limbs V).length c ∧ s7 = .int .i64 gk ∧ gk < 32 ∧ Hid (V * 2 ^ gk = D) ∧ Hid (F.Sl A c (limbs V)) ∧ Hid (F.over F0 w) ∧ ∃ g : G w [] [(tw, 29, [.int .u32 2])] [F, F0], wr = g.w)
          case atStart => exact ⟨V, A, c, F, rfl, rfl, by omega, HR, HS, HO, g, rfl⟩
          case round =>
            clear g HR HS HO hi32 hgk3 hK9 h32
            obtain ⟨V, A, c, F, rfl, rfl, hk32, HR, HS, HO, g, rfl⟩ := hrel
            rcases gk with _ | k4
            · have hVD : V = D := by have := HR.out; rwa [Nat.pow_zero, Nat.mul_one] at this
              have HVD := Lib.hid hVD
              clear hVD
              go_wp2_with (with_reducible refine G.any_mark _ ?_; (try generalize Array.size (World.heap (G.w _)) = bk); (try dsimp only [List.set_cons_zero, List.set_cons_succ]); (try clear g); intro g)
              go_ret
              refine ⟨A, c, F, by rw [HD.out, ← HVD.out]; rfl, by rw [HD.out, ← HVD.out]; exact HS.out, g.passOr (by simp) HO.out⟩
            · have hV0 : V ≠ 0 := by rintro rfl; exact HG0.out (by rw [← HR.out, Nat.zero_mul])
              have hVD : V ≤ D := by rw [← HR.out]; exact Nat.le_mul_of_pos_right _ (Nat.two_pow_pos _)
              have hVl : (limbs V).length ≤ 100000000 := Nat.le_trans (limbs_len_mono hVD) HGL.out
              have hl2 : limbs 2 = [2] := limbs_one (by decide) (by decide)
              have CT := Lib.hid (fun w h1 h2 => (by
                have := rTimes_any A (some ⟨tw, 0, none⟩) c 1 V 2 w h1 h2 (by omega) (by rw [hl2]; simp)
                rw [show (limbs 2).length = 1 by rw [hl2]; rfl] at this
                exact this : Calls Tryz.prog 88 #[.slice A (limbs V).length c, .slice (some ⟨tw, 0, none⟩) 1 1] w (RNat (V * 2) w)))
              have hslt : SlW g.w (some ⟨tw, 0, none⟩) 1 (limbs 2) := by
                rw [hl2]
                exact (sl_blk (l := [2]) (by simp) (by decide) (by intro x hx; simp at hx; omega)).at (blkF_sub g.blk0)
              have hR2 : V * 2 * 2 ^ k4 = D := by rw [← HR.out, Nat.mul_assoc, ← Nat.pow_succ']
              have HR2 := Lib.hid hR2
              have hkp : (0 : Int) < ((k4 + 1 : Nat) : Int) := by omega
              have hk4 : ((k4 + 1 : Nat) : Int) = (k4 : Int) + 1 := by omega
              clear hR2 hV0 hVD hl2
              go_wp2_with (with_reducible refine G.any_mark _ ?_; (try generalize Array.size (World.heap (G.w _)) = bk); (try dsimp only [List.set_cons_zero, List.set_cons_succ]); (try clear g); intro g)
              refine (CT.out _ (G.sl g (by simp) HS.out) hslt).mono ?_
              rintro e w1 ⟨Y, y, P, rfl, hy, hn⟩
              have ho := New.over hn F0 (G.chg _).size
              obtain ⟨g1, rfl⟩ := G.new_ex _ hn
              clear hn hslt
              (try clear g)
              revert g1
              intro g
              go_wp2_with (with_reducible refine G.any_mark _ ?_; (try generalize Array.size (World.heap (G.w _)) = bk); (try dsimp only [List.set_cons_zero, List.set_cons_succ]); (try clear g); intro g)
              obtain ⟨g3, hg3⟩ := g.lessI (I' := [P, F0]) (by simp)
              go_roundg k4
              case measure => omega
              case rel => exact ⟨V * 2, Y, y, P, rfl, rfl, by omega, HR2, Lib.hid hy, Lib.hid ho, g3, hg3⟩
    · have h2 : X < Y ∨ Y < X := by omega
      have hcne : (ord X Y == 0) = false := by rw [beq_eq_false_iff_ne]; exact fun h => heq (ord_eq h)
      have hcne3 : (ord X Y != 0) = true := by rw [bne, hcne]; rfl
      have hcne2 : ¬ ord X Y = 0 := fun h => heq (ord_eq h)
      rcases h2 with hlt | hlt
      all_goals
        first
        | (have hsg : ord X Y < 0 := ord_neg hlt
           generalize ord X Y = cv at *
           obtain ⟨g2, hg2⟩ := g.perm (List.Perm.swap _ _ _)
           rw [hg2]
           clear hg2 g
           revert g2
           intro g
           obtain ⟨Z, rfl⟩ : ∃ Z, Z = Y := ⟨_, rfl⟩
           obtain ⟨S, rfl⟩ : ∃ S, S = X := ⟨_, rfl⟩
           obtain ⟨bz, rfl⟩ : ∃ bz, bz = uy := ⟨_, rfl⟩
           obtain ⟨bs, rfl⟩ : ∃ bs, bs = ux := ⟨_, rfl⟩
           obtain ⟨oz, rfl⟩ : ∃ oz, oz = oy := ⟨_, rfl⟩
           obtain ⟨os, rfl⟩ : ∃ os, os = ox := ⟨_, rfl⟩
           obtain ⟨pz, rfl⟩ : ∃ pz, pz = py := ⟨_, rfl⟩
           obtain ⟨ps, rfl⟩ : ∃ ps, ps = px := ⟨_, rfl⟩
           obtain ⟨csz, rfl⟩ : ∃ csz, csz = csy := ⟨_, rfl⟩
           obtain ⟨css, rfl⟩ : ∃ css, css = csx := ⟨_, rfl⟩
           have HI2 : Hid (Z % 2 = 1 ∧ S % 2 = 1 ∧ Nat.gcd Z S = Nat.gcd X0 Y0) := Lib.hid ⟨HI.out.2.1, HI.out.1, by rw [Nat.gcd_comm]; exact HI.out.2.2⟩
           have HSZ := HSY
           have HSS := HSX
           have hpz := hpy
           have hpz9 := hpy9
           have hlz := hly
           have hps := hpx
           have hps9 := hpx9
           have hls := hlx
           have huz := huy
           have hus := hux
           clear HI HSX HSY hpx hpx9 hlx hpy hpy9 hly hux huy)
        | (have hsg : ¬ ord X Y < 0 := fun h => by rw [ord_pos hlt] at h; omega
           generalize ord X Y = cv at *
           obtain ⟨Z, rfl⟩ : ∃ Z, Z = X := ⟨_, rfl⟩
           obtain ⟨S, rfl⟩ : ∃ S, S = Y := ⟨_, rfl⟩
           obtain ⟨bz, rfl⟩ : ∃ bz, bz = ux := ⟨_, rfl⟩
           obtain ⟨bs, rfl⟩ : ∃ bs, bs = uy := ⟨_, rfl⟩
           obtain ⟨oz, rfl⟩ : ∃ oz, oz = ox := ⟨_, rfl⟩
           obtain ⟨os, rfl⟩ : ∃ os, os = oy := ⟨_, rfl⟩
           obtain ⟨pz, rfl⟩ : ∃ pz, pz = px := ⟨_, rfl⟩
           obtain ⟨ps, rfl⟩ : ∃ ps, ps = py := ⟨_, rfl⟩
           obtain ⟨csz, rfl⟩ : ∃ csz, csz = csx := ⟨_, rfl⟩
           obtain ⟨css, rfl⟩ : ∃ css, css = csy := ⟨_, rfl⟩
           have HI2 := HI
           have HSZ := HSX
           have HSS := HSY
           have hpz := hpx
           have hpz9 := hpx9
           have hlz := hlx
           have hps := hpy
           have hps9 := hpy9
           have hls := hly
           have huz := hux
           have hus := huy
           clear HI HSX HSY hpx hpx9 hlx hpy hpy9 hly hux huy)
      all_goals
        clear heq
        generalize hnz : (limbs Z).length = nz at *
        generalize hns : (limbs S).length = ns at *
        have HNZ := Lib.hid hnz
        have HNS := Lib.hid hns
        clear hnz hns
        go_wp2_with (with_reducible refine G.any_mark _ ?_; (try generalize Array.size (World.heap (G.w _)) = bk); (try dsimp only [List.set_cons_zero, List.set_cons_succ]); (try clear g); intro g)
        go_loopg [9, 10] nz (fun gk2 s9 s56 wr => ∃ (k c : Nat) (pre : List Nat) (csz' : List Value), k + gk2 = nz ∧ s9 = .int .u64 (c : Int) ∧ s56 = .int .i64 k ∧ c ≤ 1 ∧ Hid (pre.length = k) ∧ Ok pre ∧ Hid (val pre + val ((limbs S).take k) = val ((limbs Z).take k) + 4294967296 ^ k * c) ∧ Hid (Seg csz' oz (pre ++ (limbs Z).drop k)) ∧ ∃ g : G w [] [(bz, 29, csz'), (bs, 29, css)] [F0], wr = g.w)
        case atStart => exact ⟨0, 0, [], csz, by omega, rfl, rfl, by omega, Lib.hid rfl, Ok.nil, Lib.hid (by simp [val]), Lib.hid (by rw [List.drop_zero, List.nil_append]; exact HSZ.out), g, rfl⟩
        case round =>
          clear g HSZ
          obtain ⟨k, c, pre, csz', hkg, rfl, rfl, hc1, HP, hpo, HV, HS, g, rfl⟩ := hrel
          have hLl : (pre ++ (limbs Z).drop k).length = nz := by rw [List.length_append, List.length_drop, HP.out, HNZ.out]; omega
          have HLn := Lib.hid hLl
          have hLo : Ok (pre ++ (limbs Z).drop k) := hpo.append ((ok_limbs Z).drop k)
          by_cases hk2 : k < nz
          · have e1 := HS.out.get k (by omega)
            rw [pre_get HP.out (Nat.le_refl _)] at e1
            have hx := (ok_limbs Z).getD k
            have hy := (ok_limbs S).getD k
            have st := Lib.hid (sub_step (ok_limbs Z) (ok_limbs S) hc1 HP.out HV.out)
            have e2 : k < ns → css[os + k]? = some (.int .u32 (((limbs S).getD k 0 : Nat) : Int)) := fun h => HSS.out.get k (by rw [HNS.out]; exact h)
            have e3 : ¬ k < ns → (limbs S).getD k 0 = 0 := fun h => by
              rw [List.getD_eq_getElem?_getD, List.getElem?_eq_none (by rw [HNS.out]; omega)]; rfl
            have HS2 : ∀ z, Hid (Seg (csz'.set (oz + k) (.int .u32 ((z : Nat) : Int))) oz ((pre ++ [z]) ++ (limbs Z).drop (k + 1))) := fun z => Lib.hid (by
              rw [← pre_set HP.out (by rw [HNZ.out]; exact hk2)]
              exact HS.out.set (by rw [HLn.out]; exact hk2) z)
            have HS3 := HS2 (((limbs Z).getD k 0 + 4294967296 - (limbs S).getD k 0 - c) % 4294967296)
            have hb2 := brw_le ((limbs Z).getD k 0) ((limbs S).getD k 0) c
            obtain ⟨f1, f2⟩ := sub64 hx hy hc1
            have hr : ((limbs Z).getD k 0 + 4294967296 - (limbs S).getD k 0 - c) % 4294967296 < 4294967296 := Nat.mod_lt _ (by decide)
            have hkn : (k : Int) < (nz : Int) := by omega
            clear HS2 hLl hLo
            generalize ((limbs Z).getD k 0 + 4294967296 - (limbs S).getD k 0 - c) % 4294967296 = r at *
            generalize brw ((limbs Z).getD k 0) ((limbs S).getD k 0) c = c2' at *
            generalize (limbs Z).getD k 0 = x at *
            generalize (limbs S).getD k 0 = y at *
            obtain ⟨d0, hd0⟩ : ∃ d0, IntKind.u64.wrap ((x : Int) - (c : Int)) = d0 := ⟨_, rfl⟩
            rw [hd0] at f1 f2
            by_cases hk3 : k < ns
            · have e4 := e2 hk3
              have hki : (k : Int) < (ns : Int) := by omega
              obtain ⟨d1, hd1⟩ : ∃ d1, IntKind.u64.wrap (d0 - (y : Int)) = d1 := ⟨_, rfl⟩
              obtain ⟨f3, f4, f5⟩ := f1
              rw [hd1] at f3 f4 f5
              have hwy : IntKind.u64.wrap (y : Int) = (y : Int) := by rw [IntKind.wrap_u64]; omega
              have hwx : IntKind.u64.wrap (x : Int) = (x : Int) := by rw [IntKind.wrap_u64]; omega
              clear e2 e3 f2
              go_wp2_with (with_reducible refine G.any_mark _ ?_; (try generalize Array.size (World.heap (G.w _)) = bk); (try dsimp only [List.set_cons_zero, List.set_cons_succ]); (try clear g); intro g)
              go_roundg (gk - 1)
              case measure => omega
              case rel => exact ⟨k + 1, c2', pre ++ [r], _, by omega, rfl, by go_num, hb2, Lib.hid (by rw [List.length_append, HP.out]; rfl), hpo.append (Ok.cons hr Ok.nil), st, HS3, g, rfl⟩
            · have hki : ¬ (k : Int) < (ns : Int) := by omega
              obtain ⟨f3, f4, f5⟩ := f2 (e3 hk3)
              have hwx : IntKind.u64.wrap (x : Int) = (x : Int) := by rw [IntKind.wrap_u64]; omega
              clear e2 e3 f1
              go_wp2_with (with_reducible refine G.any_mark _ ?_; (try generalize Array.size (World.heap (G.w _)) = bk); (try dsimp only [List.set_cons_zero, List.set_cons_succ]); (try clear g); intro g)
              go_roundg (gk - 1)
              case measure => omega
              case rel => exact ⟨k + 1, c2', pre ++ [r], _, by omega, rfl, by go_num, hb2, Lib.hid (by rw [List.length_append, HP.out]; rfl), hpo.append (Ok.cons hr Ok.nil), st, HS3, g, rfl⟩
          · obtain rfl : k = nz := by omega
            have hSZ : S < Z := hlt
            have hse := sub_end (l1 := limbs Z) (l2 := limbs S) hpo HP.out (by rw [HNZ.out]; exact Nat.le_refl _) (by rw [HNS.out, ← HNZ.out, ← HNS.out]; exact limbs_len_mono (by omega)) (by rw [val_limbs, val_limbs]; omega) HV.out
            obtain ⟨hpv, rfl⟩ := hse
            rw [val_limbs, val_limbs] at hpv
            have hnil : (limbs Z).drop k = [] := List.drop_of_length_le (by rw [HNZ.out]; exact Nat.le_refl _)
            have hsg2 := HS.out
            rw [hnil, List.append_nil] at hsg2
            have CO := Lib.hid (fun w hb => (by
              have := rodd_any bz oz k pz csz' pre w hb hsg2 HP.out hpz hpz9 (by omega) hpo (by rw [hpv]; omega)
              rw [hpv] at this
              exact this : Calls Tryz.prog 98 #[.slice (some ⟨bz, oz, none⟩) k pz] w (ROdd bz oz pz k (Z - S) csz'.length w)))
            have hd0 : Z - S ≠ 0 := by omega
            have hod := od_spec (Z - S) hd0
            have hole := od_le (Z - S)
            have HI3 : Hid (od (Z - S) % 2 = 1 ∧ S % 2 = 1 ∧ Nat.gcd (od (Z - S)) S = Nat.gcd X0 Y0) := Lib.hid ⟨hod.2, HI2.out.2.1, by rw [gcd_sub_odd hSZ HI2.out.2.1]; exact HI2.out.2.2⟩
            have hS1 : 0 < S := by have := HI2.out.2.1; omega
            clear hsg2 hnil hpv HV HS hLl hLo hod
            obtain ⟨X', hX'⟩ : ∃ X', od (Z - S) = X' := ⟨_, rfl⟩
            unfold ROdd at CO
            rw [hX'] at CO HI3 hole
            clear hX'
            go_wp2_with (with_reducible refine G.any_mark _ ?_; (try generalize Array.size (World.heap (G.w _)) = bk); (try dsimp only [List.set_cons_zero, List.set_cons_succ]); (try clear g); intro g)
            refine (CO.out _ g.blk0).mono ?_
            rintro e w1 ⟨q, cs2, rfl, hq1, hq2, hch, hhb, hsx, hcl⟩
            obtain ⟨g1, rfl⟩ := G.mut0 g hch hhb
            clear hch hhb CO hcl
            (try clear g)
            revert g1
            intro g
            have hX9 : (limbs X').length ≤ 100000000 := by omega
            have hXp : (limbs X').length ≤ pz - q := by omega
            have hXp9 : pz - q ≤ 9223372036854775807 := by omega
            have CC2 := Lib.hid (fun w h1 h2 => (by
              have := rOrder_any (some ⟨bz, oz + q, none⟩) (some ⟨bs, os, none⟩) (pz - q) ps X' S w h1 h2 (by omega)
              rw [HNS.out] at this
              exact this : Calls Tryz.prog 90 #[.slice (some ⟨bz, oz + q, none⟩) (limbs X').length (pz - q), .slice (some ⟨bs, os, none⟩) ns ps] w fun e w' => e = .returned (.int .i64 (ord X' S)) ∧ Below w.heap.size w w'))
            have hsl1 : SlW g.w (some ⟨bz, oz + q, none⟩) (pz - q) (limbs X') := (hsx.sl hXp hXp9 (by omega) (ok_limbs X')).at (blkF_sub g.blk0)
            have hsl2 : SlW g.w (some ⟨bs, os, none⟩) ps (limbs S) := (HSS.out.sl (by rw [HNS.out]; exact hps) hps9 (by rw [HNS.out]; omega) (ok_limbs S)).at (blkF_sub g.blk1)
            have HSX' := Lib.hid hsx
            clear hsx
            go_wp2_with (with_reducible refine G.any_mark _ ?_; (try generalize Array.size (World.heap (G.w _)) = bk); (try dsimp only [List.set_cons_zero, List.set_cons_succ]); (try clear g); intro g)
            refine (CC2.out _ hsl1 hsl2).mono ?_
            rintro e w1 ⟨rfl, hb⟩
            obtain ⟨g1, rfl⟩ := G.call_ex _ hb
            clear hb hsl1 hsl2
            (try clear g)
            revert g1
            intro g
            go_wp2_with (with_reducible refine G.any_mark _ ?_; (try generalize Array.size (World.heap (G.w _)) = bk); (try dsimp only [List.set_cons_zero, List.set_cons_succ]); (try clear g); intro g)
            go_roundg (ko - 1)
            case measure => omega
            case rel => exact ⟨X', S, bz, oz + q, pz - q, bs, os, ps, cs2, css, rfl, by rw [HNS.out], rfl, by omega, HI3, hXp, hXp9, hX9, by rw [HNS.out]; exact hps, hps9, by rw [HNS.out]; exact hls, HSX', HSS, huz, hus, g, rfl⟩
theorem rgcd_any (F0 : Frag) (A1 A2 : Option Addr) (c1 c2 a b : Nat) (w : World) (hF : F0.sub w) (h1 : F0.Sl A1 c1 (limbs a)) (h2 : F0.Sl A2 c2 (limbs b)) (hl1 : (limbs a).length ≤ 100000000) (hl2 : (limbs b).length ≤ 100000000) :
    Calls Tryz.prog 64 #[.slice A1 (limbs a).length c1, .slice A2 (limbs b).length c2] w (RAli F0 (Nat.gcd a b) w) := by
  by_cases ha : a = 0
  · subst ha
    refine calls_f hF fun g => ?_
    rw [Nat.gcd_zero_left]
    rw [show (limbs 0).length = 0 from limbs_len0]
    go_enter Tryz.func64, Tryz.ntmps64
    go_wp2_with (with_reducible refine G.any_mark _ ?_; (try generalize Array.size (World.heap (G.w _)) = bk); (try dsimp only [List.set_cons_zero, List.set_cons_succ]); (try clear g); intro g)
    go_ret
    exact ⟨A2, c2, F0, rfl, h2, g.passOr (by simp) (Frag.over_self _ _)⟩
  · by_cases hb : b = 0
    · subst hb
      refine calls_f hF fun g => ?_
      have hn := (limbs_ne ha).1
      rw [Nat.gcd_zero_right]
      rw [show (limbs 0).length = 0 from limbs_len0]
      obtain ⟨n, hn2⟩ : ∃ n, (limbs a).length = n := ⟨_, rfl⟩
      rw [hn2] at hn ⊢
      have HN := Lib.hid hn2
      clear hn2
      go_enter Tryz.func64, Tryz.ntmps64
      go_wp2_with (with_reducible refine G.any_mark _ ?_; (try generalize Array.size (World.heap (G.w _)) = bk); (try dsimp only [List.set_cons_zero, List.set_cons_succ]); (try clear g); intro g)
      go_ret
      exact ⟨A1, c1, F0, by rw [HN.out]; rfl, h1, g.passOr (by simp) (Frag.over_self _ _)⟩
    · exact rgcd_main F0 A1 A2 c1 c2 a b w hF h1 h2 ha hb hl1 hl2
end Go.Proofs.YtjdnpkicdmapnaaGreatDoor
namespace Go.Proofs.YtjdnpkicdmapnaaGreatDoor
open Go.RowKit GW NL
set_option maxRecDepth 20000 in
set_option maxHeartbeats 4000000 in
theorem rLow_any (s : Bool) (A1 A2 : Option Addr) (c1 c2 n d : Nat) (w : World) (h1 : SlW w A1 c1 (limbs n)) (h2 : SlW w A2 c2 (limbs d)) (hl1 : (limbs n).length ≤ 10000000) (hl2 : (limbs d).length ≤ 10000000) (hd : d ≠ 0) :
    Calls Tryz.prog 74 #[.bool s, .slice A1 (limbs n).length c1, .slice A2 (limbs d).length c2] w (RNf (frac s n d) w) := by
  refine calls_b fun g => ?_
  have H1 := Lib.hid h1
  have H2 := Lib.hid h2
  have CI := Lib.hid (fun w h => isone_any A2 c2 d w h)
  have CG := Lib.hid (fun F w hF h1 h2 => rgcd_any F A1 A2 c1 c2 n d w hF h1 h2 (by omega) (by omega))
  unfold RNf
  rw [frac_rneg s hd, frac_rn s hd, frac_den s hd]
  obtain ⟨G', hG⟩ : ∃ G', Nat.gcd n d = G' := ⟨_, rfl⟩
  rw [hG] at CG ⊢
  have hG0 : G' ≠ 0 := by rw [← hG]; exact Nat.ne_of_gt (Nat.gcd_pos_of_pos_right n (Nat.pos_of_ne_zero hd))
  have hgl : (limbs G').length ≤ 10000000 := Nat.le_trans (limbs_len_mono (by rw [← hG]; exact Nat.gcd_le_right n (Nat.pos_of_ne_zero hd))) hl2
  have CIG := Lib.hid (fun A c w h => isone_any A c G' w h)
  have CQ1 := Lib.hid (fun A c w h1 h2 => rquot_any A1 A c1 c n G' w h1 h2 hl1 hgl hG0)
  have CQ2 := Lib.hid (fun A c w h1 h2 => rquot_any A2 A c2 c d G' w h1 h2 hl2 hgl hG0)
  have hle1 : (limbs (n / G')).length ≤ 10000000 := Nat.le_trans (limbs_len_mono (Nat.div_le_self _ _)) hl1
  have hle2 : (limbs (d / G')).length ≤ 10000000 := Nat.le_trans (limbs_len_mono (Nat.div_le_self _ _)) hl2
  have COn := Lib.hid (fun A c w h => own_any A c (limbs (n / G')) w h (by omega))
  have COd := Lib.hid (fun A c w h => own_any A c (limbs (d / G')) w h (by omega))
  have hn0 : (n ≠ 0 ↔ 0 < (limbs (n / G')).length) := by
    have hq : n / G' = 0 ↔ n = 0 := by
      rw [← hG]
      constructor
      · intro h
        have := Nat.div_mul_cancel (Nat.gcd_dvd_left n d)
        rw [h, Nat.zero_mul] at this
        exact this.symm
      · rintro rfl; exact Nat.zero_div _
    constructor
    · intro h; exact (limbs_ne (fun h2 => h (hq.1 h2))).2
    · rintro h rfl; rw [Nat.zero_div, limbs_len0] at h; omega
  obtain ⟨bb, hbb⟩ : ∃ bb, (s && decide (n ≠ 0)) = bb := ⟨_, rfl⟩
  rw [hbb]
  have hbb2 : (s && decide ((0 : Int) < ((limbs (n / G')).length : Int))) = bb := by
    rw [← hbb]; congr 1; exact decide_eq_decide.2 ⟨fun h => hn0.2 (by omega), fun h => by have := hn0.1 h; omega⟩
  unfold RLim at COn COd
  unfold RNN at CQ1 CQ2
  by_cases hG1 : G' = 1
  · -- nothing in common
    rw [decide_eq_true hG1] at CIG
    subst hG1
    rw [Nat.div_one] at COn COd hbb2 ⊢
    rw [Nat.div_one]
    generalize (limbs n).length = ln at *
    generalize hld : (limbs d).length = ld at *
    clear hle1 hle2 hn0 hbb CQ1 CQ2 hgl hG0 hG h1 h2
    have hbs : (s = false ∧ bb = false) ∨ (s = true ∧ decide (0 < ln) = bb) := by
      rcases s with _ | _
      · left; exact ⟨rfl, by rw [← hbb2, Bool.false_and]⟩
      · right; exact ⟨rfl, by rw [← hbb2, Bool.true_and]; exact decide_eq_decide.2 (by omega)⟩
    clear hbb2
    by_cases hd1 : d = 1
    · rw [decide_eq_true hd1] at CI
      have HD := Lib.hid hd
      clear hd1 hd CIG CG
      rcases hbs with ⟨rfl, hbb3⟩ | ⟨rfl, hbb3⟩
      all_goals
        go_enter Tryz.func74, Tryz.ntmps74
        go_wp2_with (with_reducible refine G.any_mark _ ?_; (try generalize Array.size (World.heap (G.w _)) = bk); (try dsimp only [List.set_cons_zero, List.set_cons_succ]); (try clear g); intro g)
        refine (CI.out _ (G.sl g (by simp) H2.out)).mono ?_
        rintro e w1 ⟨rfl, rfl⟩
        go_wp2_with (with_reducible refine G.any_mark _ ?_; (try generalize Array.size (World.heap (G.w _)) = bk); (try dsimp only [List.set_cons_zero, List.set_cons_succ]); (try clear g); intro g)
        refine (COn.out A1 c1 _ (G.sl g (by simp) H1.out)).mono ?_
        rintro e w1 ⟨X, x, P, rfl, hx, hn1⟩
        have ho1 := fun k o hk => Nat.le_trans (G.chg _).size (hn1.new k o hk)
        obtain ⟨g1, rfl⟩ := G.new_ex _ hn1
        clear hn1
        (try clear g)
        revert g1
        intro g
        go_wp2_with (with_reducible refine G.any_mark _ ?_; (try generalize Array.size (World.heap (G.w _)) = bk); (try dsimp only [List.set_cons_zero, List.set_cons_succ]); (try clear g); intro g)
        refine (COd.out A2 c2 _ (G.sl g (by simp) H2.out)).mono ?_
        rintro e w1 ⟨Y, y, Q, rfl, hy, hn2⟩
        have ho2 := fun k o hk => Nat.le_trans (G.chg _).size (hn2.new k o hk)
        obtain ⟨g1, rfl⟩ := G.new_ex _ hn2
        clear hn2
        (try clear g)
        revert g1
        intro g
        go_wp2_with (with_reducible refine G.any_mark _ ?_; (try generalize Array.size (World.heap (G.w _)) = bk); (try dsimp only [List.set_cons_zero, List.set_cons_succ]); (try clear g); intro g)
        refine bodyPost_ret (v := .agg #[.bool bb, .slice X ln x, .slice Y ld y]) (by first | (simp [results, Tryz.results74, go_sem]; done) | (simp [results, Tryz.results74, go_sem, hbb3]; done)) rfl ?_
        exact ⟨X, x, P, Y, y, Q, rfl, hx, hy, G.pass _ (by simp) ho1, G.pass _ (by simp) ho2⟩
    · rw [decide_eq_false hd1] at CI
      have HD := Lib.hid hd
      clear hd1 hd
      rcases hbs with ⟨rfl, hbb3⟩ | ⟨rfl, hbb3⟩
      all_goals
        go_enter Tryz.func74, Tryz.ntmps74
        go_wp2_with (with_reducible refine G.any_mark _ ?_; (try generalize Array.size (World.heap (G.w _)) = bk); (try dsimp only [List.set_cons_zero, List.set_cons_succ]); (try clear g); intro g)
        refine (CI.out _ (G.sl g (by simp) H2.out)).mono ?_
        rintro e w1 ⟨rfl, rfl⟩
        go_wp2_with (with_reducible refine G.any_mark _ ?_; (try generalize Array.size (World.heap (G.w _)) = bk); (try dsimp only [List.set_cons_zero, List.set_cons_succ]); (try clear g); intro g)
        refine (CG.out (g.fr (heapOf w)) _ (g.fr_sub (by simp)) (g.fr_sl (by simp) (Frag.over_self _ _) H1.out) (g.fr_sl (by simp) (Frag.over_self _ _) H2.out)).mono ?_
        rintro e w1 ⟨Ag, cg, Fg, rfl, hsg, hng⟩
        obtain ⟨g1, rfl, hov⟩ := g.newor_ex hng
        clear hng
        (try clear g)
        revert g1
        intro g
        go_wp2_with (with_reducible refine G.any_mark _ ?_; (try generalize Array.size (World.heap (G.w _)) = bk); (try dsimp only [List.set_cons_zero, List.set_cons_succ]); (try clear g); intro g)
        refine (CIG.out Ag cg _ (G.sl g (by simp) hsg)).mono ?_
        rintro e w1 ⟨rfl, rfl⟩
        go_wp2_with (with_reducible refine G.any_mark _ ?_; (try generalize Array.size (World.heap (G.w _)) = bk); (try dsimp only [List.set_cons_zero, List.set_cons_succ]); (try clear g); intro g)
        refine (COn.out A1 c1 _ (G.sl g (by simp) H1.out)).mono ?_
        rintro e w1 ⟨X, x, P, rfl, hx, hn1⟩
        have ho1 := fun k o hk => Nat.le_trans (G.chg _).size (hn1.new k o hk)
        obtain ⟨g1, rfl⟩ := G.new_ex _ hn1
        clear hn1
        (try clear g)
        revert g1
        intro g
        go_wp2_with (with_reducible refine G.any_mark _ ?_; (try generalize Array.size (World.heap (G.w _)) = bk); (try dsimp only [List.set_cons_zero, List.set_cons_succ]); (try clear g); intro g)
        refine (COd.out A2 c2 _ (G.sl g (by simp) H2.out)).mono ?_
        rintro e w1 ⟨Y, y, Q, rfl, hy, hn2⟩
        have ho2 := fun k o hk => Nat.le_trans (G.chg _).size (hn2.new k o hk)
        obtain ⟨g1, rfl⟩ := G.new_ex _ hn2
        clear hn2
        (try clear g)
        revert g1
        intro g
        go_wp2_with (with_reducible refine G.any_mark _ ?_; (try generalize Array.size (World.heap (G.w _)) = bk); (try dsimp only [List.set_cons_zero, List.set_cons_succ]); (try clear g); intro g)
        refine bodyPost_ret (v := .agg #[.bool bb, .slice X ln x, .slice Y ld y]) (by first | (simp [results, Tryz.results74, go_sem]; done) | (simp [results, Tryz.results74, go_sem, hbb3]; done)) rfl ?_
        exact ⟨X, x, P, Y, y, Q, rfl, hx, hy, G.pass _ (by simp) ho1, G.pass _ (by simp) ho2⟩
  · rw [decide_eq_false hG1] at CIG
    have hd1 : d ≠ 1 := by rintro rfl; apply hG1; rw [← hG]; exact Nat.gcd_one_right n
    rw [decide_eq_false hd1] at CI
    have HD := Lib.hid hd
    generalize (limbs n).length = la at *
    generalize (limbs d).length = lb at *
    generalize (limbs (n / G')).length = ln at *
    generalize (limbs (d / G')).length = ld at *
    have hbs : (s = false ∧ bb = false) ∨ (s = true ∧ decide (0 < ln) = bb) := by
      rcases s with _ | _
      · left; exact ⟨rfl, by rw [← hbb2, Bool.false_and]⟩
      · right; exact ⟨rfl, by rw [← hbb2, Bool.true_and]; exact decide_eq_decide.2 (by omega)⟩
    clear hbb2 hbb hn0 hG hG0 hgl hG1 hd1 hd h1 h2
    rcases hbs with ⟨rfl, hbb3⟩ | ⟨rfl, hbb3⟩
    all_goals
      go_enter Tryz.func74, Tryz.ntmps74
      go_wp2_with (with_reducible refine G.any_mark _ ?_; (try generalize Array.size (World.heap (G.w _)) = bk); (try dsimp only [List.set_cons_zero, List.set_cons_succ]); (try clear g); intro g)
      refine (CI.out _ (G.sl g (by simp) H2.out)).mono ?_
      rintro e w1 ⟨rfl, rfl⟩
      go_wp2_with (with_reducible refine G.any_mark _ ?_; (try generalize Array.size (World.heap (G.w _)) = bk); (try dsimp only [List.set_cons_zero, List.set_cons_succ]); (try clear g); intro g)
      refine (CG.out (g.fr (heapOf w)) _ (g.fr_sub (by simp)) (g.fr_sl (by simp) (Frag.over_self _ _) H1.out) (g.fr_sl (by simp) (Frag.over_self _ _) H2.out)).mono ?_
      rintro e w1 ⟨Ag, cg, Fg, rfl, hsg, hng⟩
      obtain ⟨g1, rfl, hov⟩ := g.newor_ex hng
      clear hng
      (try clear g)
      revert g1
      intro g
      go_wp2_with (with_reducible refine G.any_mark _ ?_; (try generalize Array.size (World.heap (G.w _)) = bk); (try dsimp only [List.set_cons_zero, List.set_cons_succ]); (try clear g); intro g)
      refine (CIG.out Ag cg _ (G.sl g (by simp) hsg)).mono ?_
      rintro e w1 ⟨rfl, rfl⟩
      go_wp2_with (with_reducible refine G.any_mark _ ?_; (try generalize Array.size (World.heap (G.w _)) = bk); (try dsimp only [List.set_cons_zero, List.set_cons_succ]); (try clear g); intro g)
      refine (CQ1.out Ag cg _ (G.sl g (by simp) H1.out) (G.sl g (by simp) hsg)).mono ?_
      rintro e w1 ⟨B1, b1, F1, B2, b2, F2, rfl, hq1, hq2, hn1, hn2⟩
      obtain ⟨g1, rfl⟩ := G.new2_ex _ hn1 hn2
      clear hn1 hn2 hq2
      (try clear g)
      revert g1
      intro g
      go_wp2_with (with_reducible refine G.any_mark _ ?_; (try generalize Array.size (World.heap (G.w _)) = bk); (try dsimp only [List.set_cons_zero, List.set_cons_succ]); (try clear g); intro g)
      refine (CQ2.out Ag cg _ (G.sl g (by simp) H2.out) (G.sl g (by simp) hsg)).mono ?_
      rintro e w1 ⟨B3, b3, F3, B4, b4, F4, rfl, hq3, hq4, hn1, hn2⟩
      obtain ⟨g1, rfl⟩ := G.new2_ex _ hn1 hn2
      clear hn1 hn2 hq4
      (try clear g)
      revert g1
      intro g
      go_wp2_with (with_reducible refine G.any_mark _ ?_; (try generalize Array.size (World.heap (G.w _)) = bk); (try dsimp only [List.set_cons_zero, List.set_cons_succ]); (try clear g); intro g)
      refine (COn.out B1 b1 _ (G.sl g (by simp) hq1)).mono ?_
      rintro e w1 ⟨X, x, P, rfl, hx, hn1⟩
      have ho1 := fun k o hk => Nat.le_trans (G.chg _).size (hn1.new k o hk)
      obtain ⟨g1, rfl⟩ := G.new_ex _ hn1
      clear hn1
      (try clear g)
      revert g1
      intro g
      go_wp2_with (with_reducible refine G.any_mark _ ?_; (try generalize Array.size (World.heap (G.w _)) = bk); (try dsimp only [List.set_cons_zero, List.set_cons_succ]); (try clear g); intro g)
      refine (COd.out B3 b3 _ (G.sl g (by simp) hq3)).mono ?_
      rintro e w1 ⟨Y, y, Q, rfl, hy, hn2⟩
      have ho2 := fun k o hk => Nat.le_trans (G.chg _).size (hn2.new k o hk)
      obtain ⟨g1, rfl⟩ := G.new_ex _ hn2
      clear hn2
      (try clear g)
      revert g1
      intro g
      go_wp2_with (with_reducible refine G.any_mark _ ?_; (try generalize Array.size (World.heap (G.w _)) = bk); (try dsimp only [List.set_cons_zero, List.set_cons_succ]); (try clear g); intro g)
      refine bodyPost_ret (v := .agg #[.bool bb, .slice X ln x, .slice Y ld y]) (by first | (simp [results, Tryz.results74, go_sem]; done) | (simp [results, Tryz.results74, go_sem, hbb3]; done)) rfl ?_
      exact ⟨X, x, P, Y, y, Q, rfl, hx, hy, G.pass _ (by simp) ho1, G.pass _ (by simp) ho2⟩
end Go.Proofs.YtjdnpkicdmapnaaGreatDoor
namespace Go.Proofs.YtjdnpkicdmapnaaGreatDoor
open Go.RowKit GW NL
/-- a natural number and a sign -/
def RFrom (n : Nat) (b : Bool) (w : World) (e : Ending) (w' : World) : Prop := ∃ A c F, e = .returned (.tuple #[.slice A (limbs n).length c, .bool b]) ∧ F.Sl A c (limbs n) ∧ New w w' F
set_option maxRecDepth 20000 in
theorem from_pos (n : Nat) (h1 : n < 9223372036854775808) (w : World) : Calls Tryz.prog 114 #[.int .i64 n] w (RFrom n false w) := by
  refine calls_b fun g => ?_
  obtain ⟨hv, hk⟩ := two_limbs64 n (by omega)
  have HV := Lib.hid hv
  have e1 : (((n % 4294967296 : Nat)) : Int) = (n : Int) % 4294967296 := by omega
  have e2 : (((n / 4294967296 : Nat)) : Int) = (n : Int) / 4294967296 := by omega
  have E1 := Lib.hid e1
  have E2 := Lib.hid e2
  clear hv e1 e2
  go_enter Tryz.func114, Tryz.ntmps114
  go_wp2_with (with_reducible refine G.any_mark _ ?_; (try generalize Array.size (World.heap (G.w _)) = bk); (try dsimp only [List.set_cons_zero, List.set_cons_succ]); (try clear g); intro g)
  obtain ⟨L, hL⟩ : ∃ L, [n % 4294967296, n / 4294967296] = L := ⟨_, rfl⟩
  have hL2 : L.length = 2 := by rw [← hL]; rfl
  have HVL := HV.out
  obtain ⟨g2, hg2⟩ := g.as (M' := [(bk, 29, u32s L)]) (by rw [← hL]; simp only [u32s, List.map_cons, List.map_nil, E1.out, E2.out])
  rw [hg2]
  clear hg2 g
  revert g2
  intro g
  rw [hL] at hk HVL
  have HVV := Lib.hid HVL
  have HL2 := Lib.hid hL2
  clear HVL hL2 hL HV E1 E2
  obtain ⟨tb, rfl⟩ : ∃ tb, tb = bk := ⟨_, rfl⟩
  go_loopg [5] 2 (fun gk s5 wr => gk ≤ 2 ∧ s5 = .slice (some ⟨tb, 0, none⟩) gk 2 ∧ Hid (val (L.take gk) = n) ∧ ∃ g : G w [] [(tb, 29, u32s L)] [heapOf w], wr = g.w)
  case atStart => exact ⟨Nat.le_refl _, rfl, Lib.hid (by rw [List.take_of_length_le (by rw [HL2.out]; exact Nat.le_refl _)]; exact HVV.out), g, rfl⟩
  case round =>
    clear g
    obtain ⟨hj, rfl, HVJ, g, rfl⟩ := hrel
    have hfin : (blkF tb (.cells (u32s L).toArray 29 (0, 0))).Sl (some ⟨tb, 0, none⟩) 2 (limbs n) := by
      have := sl_trim (sl_blk (b := tb) (T := 29) (fr := (0, 0)) (c := 2) (by rw [HL2.out]; exact Nat.le_refl _) (by decide) hk)
      rwa [HVV.out] at this
    have HF := Lib.hid hfin
    clear hfin
    rcases Nat.eq_zero_or_pos gk with h0 | hj0
    · subst h0
      have hn0 : (limbs n).length = 0 := by
        rw [← HVJ.out, List.take_zero]; exact limbs_len0
      have HLE := Lib.hid hn0
      clear hn0
      go_wp2_with (with_reducible refine G.any_mark _ ?_; (try generalize Array.size (World.heap (G.w _)) = bk); (try dsimp only [List.set_cons_zero, List.set_cons_succ]); (try clear g); intro g)
      go_ret2
      exact ⟨some ⟨tb, 0, none⟩, 2, _, by rw [HLE.out]; rfl, HF.out, g.give (List.mem_cons_self ..)⟩
    · have e1 : (u32s L)[gk - 1]? = some (.int .u32 ((L.getD (gk - 1) 0 : Nat) : Int)) := u32s_getD (by rw [HL2.out]; omega)
      have hji : ((gk - 1 : Nat) : Int) = (gk : Int) - 1 := by omega
      have hj1 : (0 : Int) ≤ (gk : Int) - 1 := by omega
      have hj2 : (gk : Int) - 1 < (gk : Int) := by omega
      have hj3 : (0 : Int) < (gk : Int) := by omega
      generalize u32s L = U at *
      by_cases hx : L.getD (gk - 1) 0 = 0
      · have hv' : val (L.take (gk - 1)) = n := by
          rw [← HVJ.out]
          have := val_take_getD L (gk - 1)
          rw [show gk - 1 + 1 = gk by omega, hx] at this
          omega
        have HV' := Lib.hid hv'
        have hx1 : (((L.getD (gk - 1) 0 : Nat) : Int) == 0) = true := by simp only [hx]; rfl
        clear hv' hx
        generalize ((L.getD (gk - 1) 0 : Nat) : Int) = v at *
        go_wp2_with (with_reducible refine G.any_mark _ ?_; (try generalize Array.size (World.heap (G.w _)) = bk); (try dsimp only [List.set_cons_zero, List.set_cons_succ]); (try clear g); intro g)
        go_roundg (gk - 1)
        case measure => omega
        case rel => exact ⟨by omega, rfl, HV', g, rfl⟩
      · have hlen : (limbs n).length = gk := by
          have hl : (L.take gk).length = gk := by rw [List.length_take, HL2.out]; omega
          have t : Trim (L.take gk) := by
            intro j hj
            rw [hl] at hj
            rw [getD_take (by omega), show j = gk - 1 by omega]
            exact hx
          rw [← HVJ.out, limbs_val (hk.take gk) t, hl]
        have HLE := Lib.hid hlen
        have hx1 : (((L.getD (gk - 1) 0 : Nat) : Int) == 0) = false := by simp only [beq_eq_false_iff_ne, ne_eq]; omega
        clear hlen hx
        generalize ((L.getD (gk - 1) 0 : Nat) : Int) = v at *
        go_wp2_with (with_reducible refine G.any_mark _ ?_; (try generalize Array.size (World.heap (G.w _)) = bk); (try dsimp only [List.set_cons_zero, List.set_cons_succ]); (try clear g); intro g)
        go_ret2
        exact ⟨some ⟨tb, 0, none⟩, 2, _, by rw [HLE.out]; rfl, HF.out, g.give (List.mem_cons_self ..)⟩
set_option maxRecDepth 20000 in
theorem from_neg (n : Nat) (h0 : 0 < n) (h1 : n ≤ 9223372036854775808) (w : World) : Calls Tryz.prog 114 #[.int .i64 (-(n : Int))] w (RFrom n true w) := by
  refine calls_b fun g => ?_
  obtain ⟨a, ha⟩ : ∃ a : Int, -(n : Int) = a := ⟨_, rfl⟩
  rw [ha]
  have hneg : a < 0 := by omega
  obtain ⟨b, hb⟩ : ∃ b : Int, 18446744073709551616 - (n : Int) = b := ⟨_, rfl⟩
  have w1 : IntKind.u64.wrap a = b := by show a % 18446744073709551616 = b; omega
  have w2 : IntKind.u64.wrap (-b) = (n : Int) := by show (-b) % 18446744073709551616 = (n : Int); omega
  obtain ⟨hv, hk⟩ := two_limbs64 n (by omega)
  have HV := Lib.hid hv
  have e1 : (((n % 4294967296 : Nat)) : Int) = (n : Int) % 4294967296 := by omega
  have e2 : (((n / 4294967296 : Nat)) : Int) = (n : Int) / 4294967296 := by omega
  have E1 := Lib.hid e1
  have E2 := Lib.hid e2
  have hn64 : (n : Int) / 4294967296 < 4294967296 := by omega
  clear hv e1 e2 hb
  have h63 : -9223372036854775808 ≤ a := by omega
  go_enter Tryz.func114, Tryz.ntmps114
  go_wp2_with (with_reducible refine G.any_mark _ ?_; (try generalize Array.size (World.heap (G.w _)) = bk); (try dsimp only [List.set_cons_zero, List.set_cons_succ]); (try clear g); intro g)
  obtain ⟨L, hL⟩ : ∃ L, [n % 4294967296, n / 4294967296] = L := ⟨_, rfl⟩
  have hL2 : L.length = 2 := by rw [← hL]; rfl
  have HVL := HV.out
  obtain ⟨g2, hg2⟩ := g.as (M' := [(bk, 29, u32s L)]) (by rw [← hL]; simp only [u32s, List.map_cons, List.map_nil, E1.out, E2.out])
  rw [hg2]
  clear hg2 g
  revert g2
  intro g
  rw [hL] at hk HVL
  have HVV := Lib.hid HVL
  have HL2 := Lib.hid hL2
  clear HVL hL2 hL HV E1 E2
  obtain ⟨tb, rfl⟩ : ∃ tb, tb = bk := ⟨_, rfl⟩
  go_loopg [5] 2 (fun gk s5 wr => gk ≤ 2 ∧ s5 = .slice (some ⟨tb, 0, none⟩) gk 2 ∧ Hid (val (L.take gk) = n) ∧ ∃ g : G w [] [(tb, 29, u32s L)] [heapOf w], wr = g.w)
  case atStart => exact ⟨Nat.le_refl _, rfl, Lib.hid (by rw [List.take_of_length_le (by rw [HL2.out]; exact Nat.le_refl _)]; exact HVV.out), g, rfl⟩
  case round =>
    clear g
    obtain ⟨hj, rfl, HVJ, g, rfl⟩ := hrel
    have hfin : (blkF tb (.cells (u32s L).toArray 29 (0, 0))).Sl (some ⟨tb, 0, none⟩) 2 (limbs n) := by
      have := sl_trim (sl_blk (b := tb) (T := 29) (fr := (0, 0)) (c := 2) (by rw [HL2.out]; exact Nat.le_refl _) (by decide) hk)
      rwa [HVV.out] at this
    have HF := Lib.hid hfin
    clear hfin
    rcases Nat.eq_zero_or_pos gk with h0 | hj0
    · subst h0
      have hn0 : (limbs n).length = 0 := by
        rw [← HVJ.out, List.take_zero]; exact limbs_len0
      have HLE := Lib.hid hn0
      clear hn0
      go_wp2_with (with_reducible refine G.any_mark _ ?_; (try generalize Array.size (World.heap (G.w _)) = bk); (try dsimp only [List.set_cons_zero, List.set_cons_succ]); (try clear g); intro g)
      go_ret2
      exact ⟨some ⟨tb, 0, none⟩, 2, _, by rw [HLE.out]; rfl, HF.out, g.give (List.mem_cons_self ..)⟩
    · have e1 : (u32s L)[gk - 1]? = some (.int .u32 ((L.getD (gk - 1) 0 : Nat) : Int)) := u32s_getD (by rw [HL2.out]; omega)
      have hji : ((gk - 1 : Nat) : Int) = (gk : Int) - 1 := by omega
      have hj1 : (0 : Int) ≤ (gk : Int) - 1 := by omega
      have hj2 : (gk : Int) - 1 < (gk : Int) := by omega
      have hj3 : (0 : Int) < (gk : Int) := by omega
      generalize u32s L = U at *
      by_cases hx : L.getD (gk - 1) 0 = 0
      · have hv' : val (L.take (gk - 1)) = n := by
          rw [← HVJ.out]
          have := val_take_getD L (gk - 1)
          rw [show gk - 1 + 1 = gk by omega, hx] at this
          omega
        have HV' := Lib.hid hv'
        have hx1 : (((L.getD (gk - 1) 0 : Nat) : Int) == 0) = true := by simp only [hx]; rfl
        clear hv' hx
        generalize ((L.getD (gk - 1) 0 : Nat) : Int) = v at *
        go_wp2_with (with_reducible refine G.any_mark _ ?_; (try generalize Array.size (World.heap (G.w _)) = bk); (try dsimp only [List.set_cons_zero, List.set_cons_succ]); (try clear g); intro g)
        go_roundg (gk - 1)
        case measure => omega
        case rel => exact ⟨by omega, rfl, HV', g, rfl⟩
      · have hlen : (limbs n).length = gk := by
          have hl : (L.take gk).length = gk := by rw [List.length_take, HL2.out]; omega
          have t : Trim (L.take gk) := by
            intro j hj
            rw [hl] at hj
            rw [getD_take (by omega), show j = gk - 1 by omega]
            exact hx
          rw [← HVJ.out, limbs_val (hk.take gk) t, hl]
        have HLE := Lib.hid hlen
        have hx1 : (((L.getD (gk - 1) 0 : Nat) : Int) == 0) = false := by simp only [beq_eq_false_iff_ne, ne_eq]; omega
        clear hlen hx
        generalize ((L.getD (gk - 1) 0 : Nat) : Int) = v at *
        go_wp2_with (with_reducible refine G.any_mark _ ?_; (try generalize Array.size (World.heap (G.w _)) = bk); (try dsimp only [List.set_cons_zero, List.set_cons_succ]); (try clear g); intro g)
        go_ret2
        exact ⟨some ⟨tb, 0, none⟩, 2, _, by rw [HLE.out]; rfl, HF.out, g.give (List.mem_cons_self ..)⟩
end Go.Proofs.YtjdnpkicdmapnaaGreatDoor
namespace Go.Proofs.YtjdnpkicdmapnaaGreatDoor
open Go.RowKit GW NL
theorem from_any (a : Int) (h1 : -9223372036854775808 ≤ a) (h2 : a < 9223372036854775808) (w : World) : Calls Tryz.prog 114 #[.int .i64 a] w (RFrom a.natAbs (decide (a < 0)) w) := by
  by_cases h : a < 0
  · have := from_neg a.natAbs (by omega) (by omega) w
    rw [show -((a.natAbs : Nat) : Int) = a by omega] at this
    rwa [decide_eq_true h]
  · have := from_pos a.natAbs (by omega) w
    rw [show ((a.natAbs : Nat) : Int) = a by omega] at this
    rwa [decide_eq_false h]
/-- what the reference's Of answers -/
def ofY (a b : Int) : Bool × Nat × Nat × Int := if b = 0 then (false, 0, 0, 6) else (rneg (frac (decide (a < 0) != decide (b < 0)) a.natAbs b.natAbs), rn (frac (decide (a < 0) != decide (b < 0)) a.natAbs b.natAbs), (frac (decide (a < 0) != decide (b < 0)) a.natAbs b.natAbs).den, 0)
set_option maxRecDepth 20000 in
set_option maxHeartbeats 4000000 in
theorem rOf_any (a b : Int) (h1 : -9223372036854775808 ≤ a) (h2 : a < 9223372036854775808) (h3 : -9223372036854775808 ≤ b) (h4 : b < 9223372036854775808) (w : World) :
    Calls Tryz.prog 75 #[.int .i64 a, .int .i64 b] w (RPE (ofY a b) w) := by
  by_cases hb0 : b = 0
  · subst hb0
    refine calls_b fun g => ?_
    go_enter Tryz.func75, Tryz.ntmps75
    go_wp2_with (with_reducible refine G.any_mark _ ?_; (try generalize Array.size (World.heap (G.w _)) = bk); (try dsimp only [List.set_cons_zero, List.set_cons_succ]); (try clear g); intro g)
    refine bodyPost_ret (v := .tuple #[.agg #[.bool false, .slice none 0 0, .slice none 0 0], .int .i64 6]) (by simp [results, Tryz.results75, go_sem]) rfl ?_
    exact rpe_err _ _
  · have hd0 : b.natAbs ≠ 0 := by omega
    have hla : (limbs a.natAbs).length ≤ 2 := (limbs_len _ 2).2 (by rw [pow32]; omega)
    have hlb : (limbs b.natAbs).length ≤ 2 := (limbs_len _ 2).2 (by rw [pow32]; omega)
    unfold ofY
    rw [if_neg hb0]
    refine calls_b fun g => ?_
    have CSA := Lib.hid (fun w => from_any a h1 h2 w)
    have CSB := Lib.hid (fun w => from_any b h3 h4 w)
    have hbz : (b == 0) = false := by rw [beq_eq_false_iff_ne]; exact hb0
    generalize a.natAbs = na at *
    generalize b.natAbs = nb at *
    obtain ⟨sa, hsa⟩ : ∃ s, decide (a < 0) = s := ⟨_, rfl⟩
    obtain ⟨sb, hsb⟩ : ∃ s, decide (b < 0) = s := ⟨_, rfl⟩
    rw [hsa] at CSA ⊢
    rw [hsb] at CSB ⊢
    obtain ⟨sg, hsg⟩ : ∃ sg, (sa != sb) = sg := ⟨_, rfl⟩
    rw [hsg]
    have hsg2 : (!(sa == sb)) = sg := hsg
    clear hsa hsb
    have CL := Lib.hid (fun A c B k w h1 h2 => rLow_any sg A B c k na nb w h1 h2 (by omega) (by omega) hd0)
    unfold RNf at CL
    generalize frac sg na nb = x at *
    generalize rneg x = xs at *
    generalize rn x = xn at *
    generalize x.den = xd at *
    clear h1 h2 h3 h4 hla hlb hd0 hb0
    unfold RPE
    dsimp only
    go_enter Tryz.func75, Tryz.ntmps75
    go_wp2_with (with_reducible refine G.any_mark _ ?_; (try generalize Array.size (World.heap (G.w _)) = bk); (try dsimp only [List.set_cons_zero, List.set_cons_succ]); (try clear g); intro g)
    refine (CSA.out _).mono ?_
    rintro e w1 ⟨X1, x1, P1, rfl, hx1, hn1⟩
    obtain ⟨g1, rfl⟩ := G.new_ex _ hn1
    clear hn1
    (try clear g)
    revert g1
    intro g
    go_wp2_with (with_reducible refine G.any_mark _ ?_; (try generalize Array.size (World.heap (G.w _)) = bk); (try dsimp only [List.set_cons_zero, List.set_cons_succ]); (try clear g); intro g)
    refine (CSB.out _).mono ?_
    rintro e w1 ⟨X2, x2, P2, rfl, hx2, hn2⟩
    obtain ⟨g1, rfl⟩ := G.new_ex _ hn2
    clear hn2
    (try clear g)
    revert g1
    intro g
    go_wp2_with (with_reducible refine G.any_mark _ ?_; (try generalize Array.size (World.heap (G.w _)) = bk); (try dsimp only [List.set_cons_zero, List.set_cons_succ]); (try clear g); intro g)
    refine (CL.out _ _ _ _ _ (G.sl g (by simp) hx1) (G.sl g (by simp) hx2)).mono ?_
    rintro e w1 ⟨Z1, z1, R1, Z2, z2, R2, rfl, hz1, hz2, hn1, hn2⟩
    have ho1 := fun k o hk => Nat.le_trans (G.chg _).size (hn1.new k o hk)
    have ho2 := fun k o hk => Nat.le_trans (G.chg _).size (hn2.new k o hk)
    obtain ⟨g1, rfl⟩ := G.new2_ex _ hn1 hn2
    clear hn1 hn2
    (try clear g)
    revert g1
    intro g
    go_wp2_with (with_reducible refine G.any_mark _ ?_; (try generalize Array.size (World.heap (G.w _)) = bk); (try dsimp only [List.set_cons_zero, List.set_cons_succ]); (try clear g); intro g)
    refine bodyPost_ret (v := .tuple #[.agg #[.bool xs, .slice Z1 (limbs xn).length z1, .slice Z2 (limbs xd).length z2], .int .i64 0]) (by simp [results, Tryz.results75, go_sem]) rfl ?_
    exact ⟨Z1, z1, R1, Z2, z2, R2, rfl, hz1, hz2, G.pass _ (by simp) ho1, G.pass _ (by simp) ho2⟩
end Go.Proofs.YtjdnpkicdmapnaaGreatDoor
namespace Go.Proofs.YtjdnpkicdmapnaaGreatDoor
open Go.RowKit GW NL
theorem rPlus3_any (A1 A2 : Option Addr) (c1 c2 a b : Nat) (w : World) (h1 : SlW w A1 c1 (limbs a)) (h2 : SlW w A2 c2 (limbs b)) (hl1 : (limbs a).length ≤ 100000000) (hl2 : (limbs b).length ≤ 100000000) :
    Calls Tryz.prog 89 #[.slice A1 (limbs a).length c1, .slice A2 (limbs b).length c2] w (RNat (a + b) w) := by
  refine calls_b fun g => ?_
  have C1 := Lib.hid (fun w h1 h2 => radd_any A1 A2 c1 c2 a b w h1 h2 (by omega) (by omega))
  generalize (limbs a).length = n1 at *
  generalize (limbs b).length = n2 at *
  generalize a + b = r at *
  go_enter Tryz.func89, Tryz.ntmps89
  go_wp2_with (with_reducible refine G.any_mark _ ?_; (try generalize Array.size (World.heap (G.w _)) = bk); (try dsimp only [List.set_cons_zero, List.set_cons_succ]); (try clear g); intro g)
  refine (C1.out _ (G.sl g (by simp) h1) (G.sl g (by simp) h2)).mono ?_
  rintro e w1 ⟨X, x, P, rfl, hx, hn⟩
  have ho := fun k o hk => Nat.le_trans (G.chg _).size (hn.new k o hk)
  obtain ⟨g1, rfl⟩ := G.new_ex _ hn
  clear hn
  (try clear g)
  revert g1
  intro g
  go_wp2_with (with_reducible refine G.any_mark _ ?_; (try generalize Array.size (World.heap (G.w _)) = bk); (try dsimp only [List.set_cons_zero, List.set_cons_succ]); (try clear g); intro g)
  go_ret
  exact ⟨X, x, P, rfl, hx, G.pass _ (by simp) ho⟩
theorem rLess3_any (A1 A2 : Option Addr) (c1 c2 a b : Nat) (w : World) (h1 : SlW w A1 c1 (limbs a)) (h2 : SlW w A2 c2 (limbs b)) (hl1 : (limbs a).length ≤ 100000000) (hle : b ≤ a) :
    Calls Tryz.prog 91 #[.slice A1 (limbs a).length c1, .slice A2 (limbs b).length c2] w (RNat (a - b) w) := by
  refine calls_b fun g => ?_
  have C1 := Lib.hid (fun w h1 h2 => rsub_any A1 A2 c1 c2 (limbs a) (limbs b) w h1 h2 (by omega) (limbs_len_mono hle) (by rw [val_limbs, val_limbs]; exact hle))
  rw [val_limbs, val_limbs] at C1
  generalize (limbs a).length = n1 at *
  generalize (limbs b).length = n2 at *
  generalize a - b = r at *
  go_enter Tryz.func91, Tryz.ntmps91
  go_wp2_with (with_reducible refine G.any_mark _ ?_; (try generalize Array.size (World.heap (G.w _)) = bk); (try dsimp only [List.set_cons_zero, List.set_cons_succ]); (try clear g); intro g)
  refine (C1.out _ (G.sl g (by simp) h1) (G.sl g (by simp) h2)).mono ?_
  rintro e w1 ⟨X, x, P, rfl, hx, hn⟩
  have ho := fun k o hk => Nat.le_trans (G.chg _).size (hn.new k o hk)
  obtain ⟨g1, rfl⟩ := G.new_ex _ hn
  clear hn
  (try clear g)
  revert g1
  intro g
  go_wp2_with (with_reducible refine G.any_mark _ ?_; (try generalize Array.size (World.heap (G.w _)) = bk); (try dsimp only [List.set_cons_zero, List.set_cons_succ]); (try clear g); intro g)
  go_ret
  exact ⟨X, x, P, rfl, hx, G.pass _ (by simp) ho⟩
end Go.Proofs.YtjdnpkicdmapnaaGreatDoor
namespace Go.Proofs.YtjdnpkicdmapnaaGreatDoor
open Go.RowKit GW NL
set_option maxRecDepth 20000 in
set_option maxHeartbeats 2000000 in
theorem rMinus_any (s : Bool) (A1 A2 : Option Addr) (c1 c2 n d : Nat) (w : World) (h1 : SlW w A1 c1 (limbs n)) (h2 : SlW w A2 c2 (limbs d)) (hl1 : (limbs n).length ≤ 10000000) (hl2 : (limbs d).length ≤ 10000000) :
    Calls Tryz.prog 43 #[.agg #[.bool s, .slice A1 (limbs n).length c1, .slice A2 (limbs d).length c2]] w fun e w' => ∃ A c F B k H, e = .returned (.agg #[.bool (!s && decide (n ≠ 0)), .slice A (limbs n).length c, .slice B (limbs d).length k]) ∧ F.Sl A c (limbs n) ∧ H.Sl B k (limbs d) ∧ New w w' F ∧ New w w' H := by
  refine calls_b fun g => ?_
  have H1 := Lib.hid h1
  have H2 := Lib.hid h2
  have COn := Lib.hid (fun A c w h => own_any A c (limbs n) w h (by omega))
  have COd := Lib.hid (fun A c w h => own_any A c (limbs d) w h (by omega))
  unfold RLim at COn COd
  obtain ⟨bb, hbb⟩ : ∃ bb, (!s && decide (n ≠ 0)) = bb := ⟨_, rfl⟩
  rw [hbb]
  have hn0 : (n ≠ 0 ↔ 0 < (limbs n).length) := ⟨fun h => (limbs_ne h).2, fun h e => by rw [e, limbs_len0] at h; omega⟩
  generalize (limbs n).length = ln at *
  generalize (limbs d).length = ld at *
  have hbs : (s = true ∧ bb = false) ∨ (s = false ∧ decide (0 < ln) = bb) := by
    rcases s with _ | _
    · right; exact ⟨rfl, by rw [← hbb, Bool.not_false, Bool.true_and]; exact decide_eq_decide.2 hn0.symm⟩
    · left; exact ⟨rfl, by rw [← hbb, Bool.not_true, Bool.false_and]⟩
  clear hbb hn0 h1 h2
  rcases hbs with ⟨rfl, hbb3⟩ | ⟨rfl, hbb3⟩
  · subst hbb3
    go_enter Tryz.func43, Tryz.ntmps43
    go_wp2_with (with_reducible refine G.any_mark _ ?_; (try generalize Array.size (World.heap (G.w _)) = bk); (try dsimp only [List.set_cons_zero, List.set_cons_succ]); (try clear g); intro g)
    refine wp_region_held_drew (S := G.heldN g [false, true]) (by kernel_rfl) (by simp [G.heldN, HeldN, go_sem]) (fun hHeld => ?_)
    refine wpAnyH_take (i := 0) (v := ?_) rfl (by kernel_rfl) (by kernel_rfl) (by kernel_rfl) (fun _ _ _ h => h) (Or.inl ⟨by rfl, ?_⟩) (by assumption) ?_
    rotate_left 1
    · (intro w hSw; (try dsimp only at hSw); go_simp; (try with_reducible rfl))
    (try simp only [Act.put, List.getElem_toArray, List.getElem_cons_zero, List.getElem_cons_succ, List.setIfInBounds_toArray, List.set_cons_zero, List.set_cons_succ])
    refine wpAnyH_take (i := 1) (v := ?_) rfl (by kernel_rfl) (by kernel_rfl) (by kernel_rfl) (fun _ _ _ h => h) (Or.inl ⟨by rfl, ?_⟩) (by assumption) ?_
    rotate_left 1
    · (intro w hSw; (try dsimp only at hSw); go_simp; (try with_reducible rfl))
    (try simp only [Act.put, List.getElem_toArray, List.getElem_cons_zero, List.getElem_cons_succ, List.setIfInBounds_toArray, List.set_cons_zero, List.set_cons_succ])
    refine wpAnyH_take (i := 2) (v := ?_) rfl (by kernel_rfl) (by kernel_rfl) (by kernel_rfl) (fun _ _ _ h => h) (Or.inl ⟨by rfl, ?_⟩) (by assumption) ?_
    rotate_left 1
    · (intro w hSw; (try dsimp only at hSw); go_simp; (try with_reducible rfl))
    (try simp only [Act.put, List.getElem_toArray, List.getElem_cons_zero, List.getElem_cons_succ, List.setIfInBounds_toArray, List.set_cons_zero, List.set_cons_succ])
    refine wpAnyH_take (i := 3) (v := ?_) rfl (by kernel_rfl) (by kernel_rfl) (by kernel_rfl) (fun _ _ _ h => h) (Or.inl ⟨by rfl, ?_⟩) (by assumption) ?_
    rotate_left 1
    · (intro w hSw; (try dsimp only at hSw); go_simp; (try with_reducible rfl))
    (try simp only [Act.put, List.getElem_toArray, List.getElem_cons_zero, List.getElem_cons_succ, List.setIfInBounds_toArray, List.set_cons_zero, List.set_cons_succ])
    refine wpAnyH_take (i := 4) (v := undef) rfl (by kernel_rfl) (by kernel_rfl) (by kernel_rfl) (fun _ _ _ h => h) (Or.inr ⟨by rfl, rfl⟩) (by assumption) ?_
    (try simp only [Act.put, List.getElem_toArray, List.getElem_cons_zero, List.getElem_cons_succ, List.setIfInBounds_toArray, List.set_cons_zero, List.set_cons_succ])
    refine wpAnyH_take (i := 5) (v := undef) rfl (by kernel_rfl) (by kernel_rfl) (by kernel_rfl) (fun _ _ _ h => h) (Or.inr ⟨by rfl, rfl⟩) (by assumption) ?_
    (try simp only [Act.put, List.getElem_toArray, List.getElem_cons_zero, List.getElem_cons_succ, List.setIfInBounds_toArray, List.set_cons_zero, List.set_cons_succ])
    refine wpAnyH_take (i := 6) (v := undef) rfl (by kernel_rfl) (by kernel_rfl) (by kernel_rfl) (fun _ _ _ h => h) (Or.inr ⟨by rfl, rfl⟩) (by assumption) ?_
    (try simp only [Act.put, List.getElem_toArray, List.getElem_cons_zero, List.getElem_cons_succ, List.setIfInBounds_toArray, List.set_cons_zero, List.set_cons_succ])
    refine wpAnyH_take (i := 7) (v := undef) rfl (by kernel_rfl) (by kernel_rfl) (by kernel_rfl) (fun _ _ _ h => h) (Or.inr ⟨by rfl, rfl⟩) (by assumption) ?_
    (try simp only [Act.put, List.getElem_toArray, List.getElem_cons_zero, List.getElem_cons_succ, List.setIfInBounds_toArray, List.set_cons_zero, List.set_cons_succ])
    refine wpAnyH_take (i := 8) (v := ?_) rfl (by kernel_rfl) (by kernel_rfl) (by kernel_rfl) (fun _ _ _ h => h) (Or.inl ⟨by rfl, ?_⟩) (by assumption) ?_
    rotate_left 1
    · (intro w hSw; (try dsimp only at hSw); go_simp; (try with_reducible rfl))
    (try simp only [Act.put, List.getElem_toArray, List.getElem_cons_zero, List.getElem_cons_succ, List.setIfInBounds_toArray, List.set_cons_zero, List.set_cons_succ])
    refine wpAnyH_take (i := 9) (v := ?_) rfl (by kernel_rfl) (by kernel_rfl) (by kernel_rfl) (fun _ _ _ h => h) (Or.inl ⟨by rfl, ?_⟩) (by assumption) ?_
    rotate_left 1
    · (intro w hSw; (try dsimp only at hSw); go_simp; (try with_reducible rfl))
    (try simp only [Act.put, List.getElem_toArray, List.getElem_cons_zero, List.getElem_cons_succ, List.setIfInBounds_toArray, List.set_cons_zero, List.set_cons_succ])
    refine wpAnyH_take (i := 10) (v := ?_) rfl (by kernel_rfl) (by kernel_rfl) (by kernel_rfl) (fun _ _ _ h => h) (Or.inl ⟨by rfl, ?_⟩) (by assumption) ?_
    rotate_left 1
    · (intro w hSw; (try dsimp only at hSw); go_simp; (try with_reducible rfl))
    (try simp only [Act.put, List.getElem_toArray, List.getElem_cons_zero, List.getElem_cons_succ, List.setIfInBounds_toArray, List.set_cons_zero, List.set_cons_succ])
    refine wpAnyH_take (i := 12) (v := ?_) rfl (by kernel_rfl) (by kernel_rfl) (by kernel_rfl) (fun _ _ _ h => h) (Or.inl ⟨by rfl, ?_⟩) (by assumption) ?_
    rotate_left 1
    · (intro w hSw; (try dsimp only at hSw); go_simp; (try with_reducible rfl))
    (try simp only [Act.put, List.getElem_toArray, List.getElem_cons_zero, List.getElem_cons_succ, List.setIfInBounds_toArray, List.set_cons_zero, List.set_cons_succ])
    refine wpAnyH_take (i := 13) (v := ?_) rfl (by kernel_rfl) (by kernel_rfl) (by kernel_rfl) (fun _ _ _ h => h) (Or.inl ⟨by rfl, ?_⟩) (by assumption) ?_
    rotate_left 1
    · (intro w hSw; (try dsimp only at hSw); go_simp; (try with_reducible rfl))
    (try simp only [Act.put, List.getElem_toArray, List.getElem_cons_zero, List.getElem_cons_succ, List.setIfInBounds_toArray, List.set_cons_zero, List.set_cons_succ])
    refine wpAnyH_ready (rs := [11]) (by kernel_rfl) (by simp) ?_
    refine AllReadyH.cons rfl (fun K hK => ?_) AllReadyH.nil
    go_simp
    go_at_call 9
    (with_reducible refine (COn.out A1 c1 _ ?_).mono ?_); (· exact G.sl _ (by simp) H1.out)
    rintro e w1 ⟨X, x, P, rfl, hx, hn1⟩
    have ho1 := fun k o hk => Nat.le_trans (G.chg _).size (hn1.new k o hk)
    obtain ⟨g1, rfl⟩ := G.new_ex _ hn1
    clear hn1 hHeld
    refine hK.out _ _ (by simp [G.heldN, HeldN, go_sem]) (fun hHeld => ?_)
    clear hK K
    (try simp only [Act.put, List.setIfInBounds_toArray, List.set_cons_zero, List.set_cons_succ])
    refine wpAnyH_ready (rs := [14]) (by kernel_rfl) (by simp) ?_
    refine AllReadyH.cons rfl (fun K hK => ?_) AllReadyH.nil
    go_simp
    go_at_call 9
    (with_reducible refine (COd.out A2 c2 _ ?_).mono ?_); (· exact G.sl _ (by simp) H2.out)
    rintro e w1 ⟨Y, y, Q, rfl, hy, hn2⟩
    have ho2 := fun k o hk => Nat.le_trans (G.chg _).size (hn2.new k o hk)
    obtain ⟨g2, rfl⟩ := G.new_ex _ hn2
    clear hn2 hHeld
    refine hK.out _ _ (by simp [G.heldN, HeldN, go_sem]) (fun hHeld => ?_)
    clear hK K
    (try simp only [Act.put, List.setIfInBounds_toArray, List.set_cons_zero, List.set_cons_succ])
    refine wpAnyH_take (i := 15) (v := ?_) rfl (by kernel_rfl) (by kernel_rfl) (by kernel_rfl) (fun _ _ _ h => h) (Or.inl ⟨by rfl, ?_⟩) (by assumption) ?_
    rotate_left 1
    · (intro w hSw; (try dsimp only at hSw); go_simp; (try with_reducible rfl))
    (try simp only [Act.put, List.getElem_toArray, List.getElem_cons_zero, List.getElem_cons_succ, List.setIfInBounds_toArray, List.set_cons_zero, List.set_cons_succ])
    clear hHeld
    refine wpAnyH_ready (rs := [16]) (by kernel_rfl) (by simp) ?_
    refine AllReadyH.cons rfl (fun K hK => ?_) AllReadyH.nil
    go_simp
    refine hK.out _ _ (by simp [G.heldN, HeldN, go_sem]) (fun hHeld => ?_)
    clear hK K
    (try simp only [Act.put, List.setIfInBounds_toArray, List.set_cons_zero, List.set_cons_succ])
    refine wpAnyH_done (by kernel_rfl) ?_ _
    go_wp2_with (with_reducible refine G.any_mark _ ?_; (try generalize Array.size (World.heap (G.w _)) = bk); (try dsimp only [List.set_cons_zero, List.set_cons_succ]); (try clear g); intro g)
    refine bodyPost_ret (v := .agg #[.bool false, .slice X ln x, .slice Y ld y]) (by simp [results, Tryz.results43, go_sem]) rfl ?_
    exact ⟨X, x, P, Y, y, Q, rfl, hx, hy, G.pass _ (by simp) ho1, G.pass _ (by simp) ho2⟩
  · go_enter Tryz.func43, Tryz.ntmps43
    go_wp2_with (with_reducible refine G.any_mark _ ?_; (try generalize Array.size (World.heap (G.w _)) = bk); (try dsimp only [List.set_cons_zero, List.set_cons_succ]); (try clear g); intro g)
    go_region_held3 (G.heldN g [false, true]) (simp [G.heldN, HeldN, go_sem]) (first
      | (go_at_call 9; (with_reducible refine (COn.out A1 c1 _ ?_).mono ?_); (· exact G.sl _ (by simp) H1.out); rintro e w1 ⟨X, x, P, rfl, hx, hn1⟩; have ho1 := fun k o hk => Nat.le_trans (G.chg _).size (hn1.new k o hk); obtain ⟨g1, rfl⟩ := G.new_ex _ hn1; clear hn1; (try clear g); revert g1; intro g)
      | (go_at_call 9; (with_reducible refine (COd.out A2 c2 _ ?_).mono ?_); (· exact G.sl _ (by simp) H2.out); rintro e w1 ⟨Y, y, Q, rfl, hy, hn2⟩; have ho2 := fun k o hk => Nat.le_trans (G.chg _).size (hn2.new k o hk); obtain ⟨g1, rfl⟩ := G.new_ex _ hn2; clear hn2; (try clear g); revert g1; intro g))
    all_goals go_wp2_with (with_reducible refine G.any_mark _ ?_; (try generalize Array.size (World.heap (G.w _)) = bk); (try dsimp only [List.set_cons_zero, List.set_cons_succ]); (try clear g); intro g)
    all_goals refine bodyPost_ret (v := .agg #[.bool bb, .slice X ln x, .slice Y ld y]) (by first | (simp [results, Tryz.results43, go_sem]; done) | (simp [results, Tryz.results43, go_sem, hbb3]; done)) rfl ?_
    all_goals exact ⟨X, x, P, Y, y, Q, rfl, hx, hy, G.pass _ (by simp) ho1, G.pass _ (by simp) ho2⟩
end Go.Proofs.YtjdnpkicdmapnaaGreatDoor
namespace Go.Proofs.YtjdnpkicdmapnaaGreatDoor
open Go.RowKit GW NL
set_option maxRecDepth 20000 in
set_option maxHeartbeats 4000000 in
theorem rplus_same (s : Bool) (A1 B1 A2 B2 : Option Addr) (c1 k1 c2 k2 n1 d1 n2 d2 : Nat) (w : World) (h1 : SlW w A1 c1 (limbs n1)) (j1 : SlW w B1 k1 (limbs d1)) (h2 : SlW w A2 c2 (limbs n2)) (j2 : SlW w B2 k2 (limbs d2))
    (l1 : (limbs n1).length ≤ 1000000) (m1 : (limbs d1).length ≤ 1000000) (l2 : (limbs n2).length ≤ 1000000) (m2 : (limbs d2).length ≤ 1000000) (z1 : d1 ≠ 0) (z2 : d2 ≠ 0) :
    Calls Tryz.prog 48 #[.agg #[.bool s, .slice A1 (limbs n1).length c1, .slice B1 (limbs d1).length k1], .agg #[.bool s, .slice A2 (limbs n2).length c2, .slice B2 (limbs d2).length k2]] w (RNf (frac s n1 d1 + frac s n2 d2) w) := by
  refine calls_b fun g => ?_
  have C1 := Lib.hid (fun w a b => rTimes_any A1 B2 c1 k2 n1 d2 w a b (by omega) (by omega))
  have C2 := Lib.hid (fun w a b => rTimes_any A2 B1 c2 k1 n2 d1 w a b (by omega) (by omega))
  have C3 := Lib.hid (fun w a b => rTimes_any B1 B2 k1 k2 d1 d2 w a b (by omega) (by omega))
  have q1 := limbs_mul_len n1 d2
  have q2 := limbs_mul_len n2 d1
  have q3 := limbs_mul_len d1 d2
  have hd : d1 * d2 ≠ 0 := Nat.mul_ne_zero z1 z2
  rw [frac_add_same s z1 z2]
  have CA := Lib.hid (fun A1 A2 c1 c2 w a b => rPlus3_any A1 A2 c1 c2 (n1 * d2) (n2 * d1) w a b (by omega) (by omega))
  have q4 := limbs_add_len (n1 * d2) (n2 * d1)
  have CL := Lib.hid (fun A1 A2 c1 c2 w h1 h2 => rLow_any s A1 A2 c1 c2 (n1 * d2 + n2 * d1) (d1 * d2) w h1 h2 (by omega) (by omega) hd)
  unfold RNat at C1 C2 C3 CA
  unfold RNf at CL ⊢
  generalize frac s (n1 * d2 + n2 * d1) (d1 * d2) = z at *
  clear hd z1 z2
  generalize hX : n1 * d2 = X at *
  generalize hY : n2 * d1 = Y at *
  generalize hD : d1 * d2 = D at *
  clear hX hY hD
  generalize (limbs n1).length = ln1 at *
  generalize (limbs d1).length = ld1 at *
  generalize (limbs n2).length = ln2 at *
  generalize (limbs d2).length = ld2 at *
  generalize rneg z = sz at *
  generalize (limbs (rn z)).length = lz at *
  generalize (limbs z.den).length = mz at *
  cases s
  all_goals
    go_enter Tryz.func48, Tryz.ntmps48
    go_wp2_with (with_reducible refine G.any_mark _ ?_; (try generalize Array.size (World.heap (G.w _)) = bk); (try dsimp only [List.set_cons_zero, List.set_cons_succ]); (try clear g); intro g)
    go_region_held3 (G.heldN g [false, true, true]) (simp [G.heldN, HeldN, go_sem]) (first
      | (go_at_call 88; (with_reducible refine (C1.out _ ?_ ?_).mono ?_); (· exact G.sl _ (by simp) h1); (· exact G.sl _ (by simp) j2); rintro e w1 ⟨X1, x1, P1, rfl, hx1, hn1⟩; obtain ⟨g1, rfl⟩ := G.new_ex _ hn1; clear hn1; (try clear g); revert g1; intro g)
      | (go_at_call 88; (with_reducible refine (C2.out _ ?_ ?_).mono ?_); (· exact G.sl _ (by simp) h2); (· exact G.sl _ (by simp) j1); rintro e w1 ⟨X2, x2, P2, rfl, hx2, hn2⟩; obtain ⟨g1, rfl⟩ := G.new_ex _ hn2; clear hn2; (try clear g); revert g1; intro g))
    all_goals ((try simp only [G.drew_eq, G.drewN_eq]); (refine G.any_mark _ ?_; (try clear g); intro g))
    all_goals go_wp2_with (with_reducible refine G.any_mark _ ?_; (try generalize Array.size (World.heap (G.w _)) = bk); (try dsimp only [List.set_cons_zero, List.set_cons_succ]); (try clear g); intro g)
    (with_reducible refine (C3.out _ ?_ ?_).mono ?_)
    · exact G.sl _ (by simp) j1
    · exact G.sl _ (by simp) j2
    rintro e w1 ⟨X3, x3, P3, rfl, hx3, hn3⟩
    obtain ⟨g1, rfl⟩ := G.new_ex _ hn3
    clear hn3
    (try clear g)
    revert g1
    intro g
    go_wp2_with (with_reducible refine G.any_mark _ ?_; (try generalize Array.size (World.heap (G.w _)) = bk); (try dsimp only [List.set_cons_zero, List.set_cons_succ]); (try clear g); intro g)
    go_region_held3 (G.heldN g [false, true, true]) (simp [G.heldN, HeldN, go_sem]) (first
      | (go_at_call 89; (with_reducible refine (CA.out _ _ _ _ _ ?_ ?_).mono ?_); (· exact G.sl _ (by simp) hx1); (· exact G.sl _ (by simp) hx2); rintro e w1 ⟨X4, x4, P4, rfl, hx4, hn4⟩; obtain ⟨g1, rfl⟩ := G.new_ex _ hn4; clear hn4; (try clear g); revert g1; intro g)
      | (go_at_call 74; (with_reducible refine (CL.out _ _ _ _ _ ?_ ?_).mono ?_); (· exact G.sl _ (by simp) hx4); (· exact G.sl _ (by simp) hx3); rintro e w1 ⟨Y1, y1, Q1, Y2, y2, Q2, rfl, hy1, hy2, hn1, hn2⟩; have ho1 := fun k o hk => Nat.le_trans (G.chg _).size (hn1.new k o hk); have ho2 := fun k o hk => Nat.le_trans (G.chg _).size (hn2.new k o hk); obtain ⟨g1, rfl⟩ := G.new2_ex _ hn1 hn2; clear hn1 hn2; (try clear g); revert g1; intro g))
    all_goals (first | ((try simp only [G.drew_eq, G.drewN_eq]); (refine G.any_mark _ ?_; (try clear g); intro g)) | skip)
    all_goals go_wp2_with (with_reducible refine G.any_mark _ ?_; (try generalize Array.size (World.heap (G.w _)) = bk); (try dsimp only [List.set_cons_zero, List.set_cons_succ]); (try clear g); intro g)
    all_goals refine bodyPost_ret (v := .agg #[.bool sz, .slice Y1 lz y1, .slice Y2 mz y2]) (by simp [results, Tryz.results48, go_sem]) rfl ?_
    all_goals exact ⟨Y1, y1, Q1, Y2, y2, Q2, rfl, hy1, hy2, G.pass _ (by simp) ho1, G.pass _ (by simp) ho2⟩
set_option maxRecDepth 20000 in
set_option maxHeartbeats 4000000 in
theorem rplus_lt (s t : Bool) (A1 B1 A2 B2 : Option Addr) (c1 k1 c2 k2 n1 d1 n2 d2 : Nat) (w : World) (h1 : SlW w A1 c1 (limbs n1)) (j1 : SlW w B1 k1 (limbs d1)) (h2 : SlW w A2 c2 (limbs n2)) (j2 : SlW w B2 k2 (limbs d2))
    (l1 : (limbs n1).length ≤ 1000000) (m1 : (limbs d1).length ≤ 1000000) (l2 : (limbs n2).length ≤ 1000000) (m2 : (limbs d2).length ≤ 1000000) (z1 : d1 ≠ 0) (z2 : d2 ≠ 0) (hst : s ≠ t) (hlt : n1 * d2 < n2 * d1) :
    Calls Tryz.prog 48 #[.agg #[.bool s, .slice A1 (limbs n1).length c1, .slice B1 (limbs d1).length k1], .agg #[.bool t, .slice A2 (limbs n2).length c2, .slice B2 (limbs d2).length k2]] w (RNf (frac s n1 d1 + frac t n2 d2) w) := by
  refine calls_b fun g => ?_
  have C1 := Lib.hid (fun w a b => rTimes_any A1 B2 c1 k2 n1 d2 w a b (by omega) (by omega))
  have C2 := Lib.hid (fun w a b => rTimes_any A2 B1 c2 k1 n2 d1 w a b (by omega) (by omega))
  have C3 := Lib.hid (fun w a b => rTimes_any B1 B2 k1 k2 d1 d2 w a b (by omega) (by omega))
  have q1 := limbs_mul_len n1 d2
  have q2 := limbs_mul_len n2 d1
  have q3 := limbs_mul_len d1 d2
  have hd : d1 * d2 ≠ 0 := Nat.mul_ne_zero z1 z2
  rw [frac_add_lt hst z1 z2 hlt]
  have CC := Lib.hid (fun A1 A2 c1 c2 w a b => rOrder_any A1 A2 c1 c2 (n1 * d2) (n2 * d1) w a b (by omega))
  have CA := Lib.hid (fun A1 A2 c1 c2 w a b => rLess3_any A1 A2 c1 c2 (n2 * d1) (n1 * d2) w a b (by omega) (by omega))
  have q4 : (limbs (n2 * d1 - n1 * d2)).length ≤ (limbs (n2 * d1)).length := limbs_len_mono (Nat.sub_le _ _)
  have hcv : ord (n1 * d2) (n2 * d1) < 0 := ord_neg hlt
  generalize ord (n1 * d2) (n2 * d1) = cv at *
  have CL := Lib.hid (fun A1 A2 c1 c2 w h1 h2 => rLow_any t A1 A2 c1 c2 (n2 * d1 - n1 * d2) (d1 * d2) w h1 h2 (by omega) (by omega) hd)
  unfold RNat at C1 C2 C3 CA
  unfold RNf at CL ⊢
  generalize frac t (n2 * d1 - n1 * d2) (d1 * d2) = z at *
  clear hd z1 z2
  generalize hX : n1 * d2 = X at *
  generalize hY : n2 * d1 = Y at *
  generalize hD : d1 * d2 = D at *
  clear hX hY hD
  generalize (limbs n1).length = ln1 at *
  generalize (limbs d1).length = ld1 at *
  generalize (limbs n2).length = ln2 at *
  generalize (limbs d2).length = ld2 at *
  generalize rneg z = sz at *
  generalize (limbs (rn z)).length = lz at *
  generalize (limbs z.den).length = mz at *
  cases s <;> cases t <;> first | exact absurd rfl hst | skip
  all_goals
    go_enter Tryz.func48, Tryz.ntmps48
    go_wp2_with (with_reducible refine G.any_mark _ ?_; (try generalize Array.size (World.heap (G.w _)) = bk); (try dsimp only [List.set_cons_zero, List.set_cons_succ]); (try clear g); intro g)
    go_region_held3 (G.heldN g [false, true, true]) (simp [G.heldN, HeldN, go_sem]) (first
      | (go_at_call 88; (with_reducible refine (C1.out _ ?_ ?_).mono ?_); (· exact G.sl _ (by simp) h1); (· exact G.sl _ (by simp) j2); rintro e w1 ⟨X1, x1, P1, rfl, hx1, hn1⟩; obtain ⟨g1, rfl⟩ := G.new_ex _ hn1; clear hn1; (try clear g); revert g1; intro g)
      | (go_at_call 88; (with_reducible refine (C2.out _ ?_ ?_).mono ?_); (· exact G.sl _ (by simp) h2); (· exact G.sl _ (by simp) j1); rintro e w1 ⟨X2, x2, P2, rfl, hx2, hn2⟩; obtain ⟨g1, rfl⟩ := G.new_ex _ hn2; clear hn2; (try clear g); revert g1; intro g))
    all_goals ((try simp only [G.drew_eq, G.drewN_eq]); (refine G.any_mark _ ?_; (try clear g); intro g))
    all_goals go_wp2_with (with_reducible refine G.any_mark _ ?_; (try generalize Array.size (World.heap (G.w _)) = bk); (try dsimp only [List.set_cons_zero, List.set_cons_succ]); (try clear g); intro g)
    (with_reducible refine (C3.out _ ?_ ?_).mono ?_)
    · exact G.sl _ (by simp) j1
    · exact G.sl _ (by simp) j2
    rintro e w1 ⟨X3, x3, P3, rfl, hx3, hn3⟩
    obtain ⟨g1, rfl⟩ := G.new_ex _ hn3
    clear hn3
    (try clear g)
    revert g1
    intro g
    go_wp2_with (with_reducible refine G.any_mark _ ?_; (try generalize Array.size (World.heap (G.w _)) = bk); (try dsimp only [List.set_cons_zero, List.set_cons_succ]); (try clear g); intro g)
    (with_reducible refine (CC.out _ _ _ _ _ ?_ ?_).mono ?_)
    · exact G.sl _ (by simp) hx1
    · exact G.sl _ (by simp) hx2
    rintro e w1 ⟨rfl, hb⟩
    obtain ⟨g1, rfl⟩ := G.call_ex _ hb
    clear hb
    (try clear g)
    revert g1
    intro g
    go_wp2_with (with_reducible refine G.any_mark _ ?_; (try generalize Array.size (World.heap (G.w _)) = bk); (try dsimp only [List.set_cons_zero, List.set_cons_succ]); (try clear g); intro g)
    go_region_held3 (G.heldN g [false, true, true]) (simp [G.heldN, HeldN, go_sem]) (first
      | (go_at_call 91; (with_reducible refine (CA.out _ _ _ _ _ ?_ ?_).mono ?_); (· exact G.sl _ (by simp) hx2); (· exact G.sl _ (by simp) hx1); rintro e w1 ⟨X4, x4, P4, rfl, hx4, hn4⟩; obtain ⟨g1, rfl⟩ := G.new_ex _ hn4; clear hn4; (try clear g); revert g1; intro g)
      | (go_at_call 74; (with_reducible refine (CL.out _ _ _ _ _ ?_ ?_).mono ?_); (· exact G.sl _ (by simp) hx4); (· exact G.sl _ (by simp) hx3); rintro e w1 ⟨Y1, y1, Q1, Y2, y2, Q2, rfl, hy1, hy2, hn1, hn2⟩; have ho1 := fun k o hk => Nat.le_trans (G.chg _).size (hn1.new k o hk); have ho2 := fun k o hk => Nat.le_trans (G.chg _).size (hn2.new k o hk); obtain ⟨g1, rfl⟩ := G.new2_ex _ hn1 hn2; clear hn1 hn2; (try clear g); revert g1; intro g))
    all_goals (first | ((try simp only [G.drew_eq, G.drewN_eq]); (refine G.any_mark _ ?_; (try clear g); intro g)) | skip)
    all_goals go_wp2_with (with_reducible refine G.any_mark _ ?_; (try generalize Array.size (World.heap (G.w _)) = bk); (try dsimp only [List.set_cons_zero, List.set_cons_succ]); (try clear g); intro g)
    all_goals refine bodyPost_ret (v := .agg #[.bool sz, .slice Y1 lz y1, .slice Y2 mz y2]) (by simp [results, Tryz.results48, go_sem]) rfl ?_
    all_goals exact ⟨Y1, y1, Q1, Y2, y2, Q2, rfl, hy1, hy2, G.pass _ (by simp) ho1, G.pass _ (by simp) ho2⟩
set_option maxRecDepth 20000 in
set_option maxHeartbeats 4000000 in
theorem rplus_ge (s t : Bool) (A1 B1 A2 B2 : Option Addr) (c1 k1 c2 k2 n1 d1 n2 d2 : Nat) (w : World) (h1 : SlW w A1 c1 (limbs n1)) (j1 : SlW w B1 k1 (limbs d1)) (h2 : SlW w A2 c2 (limbs n2)) (j2 : SlW w B2 k2 (limbs d2))
    (l1 : (limbs n1).length ≤ 1000000) (m1 : (limbs d1).length ≤ 1000000) (l2 : (limbs n2).length ≤ 1000000) (m2 : (limbs d2).length ≤ 1000000) (z1 : d1 ≠ 0) (z2 : d2 ≠ 0) (hst : s ≠ t) (hlt : ¬ n1 * d2 < n2 * d1) :
    Calls Tryz.prog 48 #[.agg #[.bool s, .slice A1 (limbs n1).length c1, .slice B1 (limbs d1).length k1], .agg #[.bool t, .slice A2 (limbs n2).length c2, .slice B2 (limbs d2).length k2]] w (RNf (frac s n1 d1 + frac t n2 d2) w) := by
  refine calls_b fun g => ?_
  have C1 := Lib.hid (fun w a b => rTimes_any A1 B2 c1 k2 n1 d2 w a b (by omega) (by omega))
  have C2 := Lib.hid (fun w a b => rTimes_any A2 B1 c2 k1 n2 d1 w a b (by omega) (by omega))
  have C3 := Lib.hid (fun w a b => rTimes_any B1 B2 k1 k2 d1 d2 w a b (by omega) (by omega))
  have q1 := limbs_mul_len n1 d2
  have q2 := limbs_mul_len n2 d1
  have q3 := limbs_mul_len d1 d2
  have hd : d1 * d2 ≠ 0 := Nat.mul_ne_zero z1 z2
  rw [frac_add_ge hst z1 z2 hlt]
  have CC := Lib.hid (fun A1 A2 c1 c2 w a b => rOrder_any A1 A2 c1 c2 (n1 * d2) (n2 * d1) w a b (by omega))
  have CA := Lib.hid (fun A1 A2 c1 c2 w a b => rLess3_any A1 A2 c1 c2 (n1 * d2) (n2 * d1) w a b (by omega) (by omega))
  have q4 : (limbs (n1 * d2 - n2 * d1)).length ≤ (limbs (n1 * d2)).length := limbs_len_mono (Nat.sub_le _ _)
  have hcv : ¬ ord (n1 * d2) (n2 * d1) < 0 := (by unfold ord; rw [if_neg hlt]; split <;> decide)
  generalize ord (n1 * d2) (n2 * d1) = cv at *
  have CL := Lib.hid (fun A1 A2 c1 c2 w h1 h2 => rLow_any s A1 A2 c1 c2 (n1 * d2 - n2 * d1) (d1 * d2) w h1 h2 (by omega) (by omega) hd)
  unfold RNat at C1 C2 C3 CA
  unfold RNf at CL ⊢
  generalize frac s (n1 * d2 - n2 * d1) (d1 * d2) = z at *
  clear hd z1 z2
  generalize hX : n1 * d2 = X at *
  generalize hY : n2 * d1 = Y at *
  generalize hD : d1 * d2 = D at *
  clear hX hY hD
  generalize (limbs n1).length = ln1 at *
  generalize (limbs d1).length = ld1 at *
  generalize (limbs n2).length = ln2 at *
  generalize (limbs d2).length = ld2 at *
  generalize rneg z = sz at *
  generalize (limbs (rn z)).length = lz at *
  generalize (limbs z.den).length = mz at *
  cases s <;> cases t <;> first | exact absurd rfl hst | skip
  all_goals
    go_enter Tryz.func48, Tryz.ntmps48
    go_wp2_with (with_reducible refine G.any_mark _ ?_; (try generalize Array.size (World.heap (G.w _)) = bk); (try dsimp only [List.set_cons_zero, List.set_cons_succ]); (try clear g); intro g)
    go_region_held3 (G.heldN g [false, true, true]) (simp [G.heldN, HeldN, go_sem]) (first
      | (go_at_call 88; (with_reducible refine (C1.out _ ?_ ?_).mono ?_); (· exact G.sl _ (by simp) h1); (· exact G.sl _ (by simp) j2); rintro e w1 ⟨X1, x1, P1, rfl, hx1, hn1⟩; obtain ⟨g1, rfl⟩ := G.new_ex _ hn1; clear hn1; (try clear g); revert g1; intro g)
      | (go_at_call 88; (with_reducible refine (C2.out _ ?_ ?_).mono ?_); (· exact G.sl _ (by simp) h2); (· exact G.sl _ (by simp) j1); rintro e w1 ⟨X2, x2, P2, rfl, hx2, hn2⟩; obtain ⟨g1, rfl⟩ := G.new_ex _ hn2; clear hn2; (try clear g); revert g1; intro g))
    all_goals ((try simp only [G.drew_eq, G.drewN_eq]); (refine G.any_mark _ ?_; (try clear g); intro g))
    all_goals go_wp2_with (with_reducible refine G.any_mark _ ?_; (try generalize Array.size (World.heap (G.w _)) = bk); (try dsimp only [List.set_cons_zero, List.set_cons_succ]); (try clear g); intro g)
    (with_reducible refine (C3.out _ ?_ ?_).mono ?_)
    · exact G.sl _ (by simp) j1
    · exact G.sl _ (by simp) j2
    rintro e w1 ⟨X3, x3, P3, rfl, hx3, hn3⟩
    obtain ⟨g1, rfl⟩ := G.new_ex _ hn3
    clear hn3
    (try clear g)
    revert g1
    intro g
    go_wp2_with (with_reducible refine G.any_mark _ ?_; (try generalize Array.size (World.heap (G.w _)) = bk); (try dsimp only [List.set_cons_zero, List.set_cons_succ]); (try clear g); intro g)
    (with_reducible refine (CC.out _ _ _ _ _ ?_ ?_).mono ?_)
    · exact G.sl _ (by simp) hx1
    · exact G.sl _ (by simp) hx2
    rintro e w1 ⟨rfl, hb⟩
    obtain ⟨g1, rfl⟩ := G.call_ex _ hb
    clear hb
    (try clear g)
    revert g1
    intro g
    go_wp2_with (with_reducible refine G.any_mark _ ?_; (try generalize Array.size (World.heap (G.w _)) = bk); (try dsimp only [List.set_cons_zero, List.set_cons_succ]); (try clear g); intro g)
    go_region_held3 (G.heldN g [false, true, true]) (simp [G.heldN, HeldN, go_sem]) (first
      | (go_at_call 91; (with_reducible refine (CA.out _ _ _ _ _ ?_ ?_).mono ?_); (· exact G.sl _ (by simp) hx1); (· exact G.sl _ (by simp) hx2); rintro e w1 ⟨X4, x4, P4, rfl, hx4, hn4⟩; obtain ⟨g1, rfl⟩ := G.new_ex _ hn4; clear hn4; (try clear g); revert g1; intro g)
      | (go_at_call 74; (with_reducible refine (CL.out _ _ _ _ _ ?_ ?_).mono ?_); (· exact G.sl _ (by simp) hx4); (· exact G.sl _ (by simp) hx3); rintro e w1 ⟨Y1, y1, Q1, Y2, y2, Q2, rfl, hy1, hy2, hn1, hn2⟩; have ho1 := fun k o hk => Nat.le_trans (G.chg _).size (hn1.new k o hk); have ho2 := fun k o hk => Nat.le_trans (G.chg _).size (hn2.new k o hk); obtain ⟨g1, rfl⟩ := G.new2_ex _ hn1 hn2; clear hn1 hn2; (try clear g); revert g1; intro g))
    all_goals (first | ((try simp only [G.drew_eq, G.drewN_eq]); (refine G.any_mark _ ?_; (try clear g); intro g)) | skip)
    all_goals go_wp2_with (with_reducible refine G.any_mark _ ?_; (try generalize Array.size (World.heap (G.w _)) = bk); (try dsimp only [List.set_cons_zero, List.set_cons_succ]); (try clear g); intro g)
    all_goals refine bodyPost_ret (v := .agg #[.bool sz, .slice Y1 lz y1, .slice Y2 mz y2]) (by simp [results, Tryz.results48, go_sem]) rfl ?_
    all_goals exact ⟨Y1, y1, Q1, Y2, y2, Q2, rfl, hy1, hy2, G.pass _ (by simp) ho1, G.pass _ (by simp) ho2⟩
theorem rPlus_any (s1 s2 : Bool) (A1 B1 A2 B2 : Option Addr) (c1 k1 c2 k2 n1 d1 n2 d2 : Nat) (w : World) (h1 : SlW w A1 c1 (limbs n1)) (j1 : SlW w B1 k1 (limbs d1)) (h2 : SlW w A2 c2 (limbs n2)) (j2 : SlW w B2 k2 (limbs d2))
    (l1 : (limbs n1).length ≤ 1000000) (m1 : (limbs d1).length ≤ 1000000) (l2 : (limbs n2).length ≤ 1000000) (m2 : (limbs d2).length ≤ 1000000) (z1 : d1 ≠ 0) (z2 : d2 ≠ 0) :
    Calls Tryz.prog 48 #[.agg #[.bool s1, .slice A1 (limbs n1).length c1, .slice B1 (limbs d1).length k1], .agg #[.bool s2, .slice A2 (limbs n2).length c2, .slice B2 (limbs d2).length k2]] w (RNf (frac s1 n1 d1 + frac s2 n2 d2) w) := by
  by_cases hs : s1 = s2
  · subst hs
    exact rplus_same s1 A1 B1 A2 B2 c1 k1 c2 k2 n1 d1 n2 d2 w h1 j1 h2 j2 l1 m1 l2 m2 z1 z2
  · by_cases hlt : n1 * d2 < n2 * d1
    · exact rplus_lt s1 s2 A1 B1 A2 B2 c1 k1 c2 k2 n1 d1 n2 d2 w h1 j1 h2 j2 l1 m1 l2 m2 z1 z2 hs hlt
    · exact rplus_ge s1 s2 A1 B1 A2 B2 c1 k1 c2 k2 n1 d1 n2 d2 w h1 j1 h2 j2 l1 m1 l2 m2 z1 z2 hs hlt
end Go.Proofs.YtjdnpkicdmapnaaGreatDoor
namespace Go.Proofs.YtjdnpkicdmapnaaGreatDoor
open Go.RowKit GW NL
set_option maxRecDepth 20000 in
set_option maxHeartbeats 4000000 in
theorem rrcheck (s : Bool) (A B : Option Addr) (c k : Nat) (ln ld : List Nat) (w : World) (h1 : SlW w A c ln) (h2 : SlW w B k ld) :
    Calls Tryz.prog 23 #[.agg #[.bool s, .slice A ln.length c, .slice B ld.length k]] w fun e w' => e = .returned (.int .i64 (rchk s ln ld)) ∧ Below w.heap.size w w' := by
  refine calls_b fun g => ?_
  have CK1 := Lib.hid (fun w h => rcheck_any A c ln w h)
  have CK2 := Lib.hid (fun w h => rcheck_any B k ld w h)
  have H1 := Lib.hid h1
  have H2 := Lib.hid h2
  by_cases hx1 : chk ln = 0
  · by_cases hx2 : chk ld = 0
    · obtain ⟨e1, b1, b2⟩ := chk_ok h1.ok hx1
      obtain ⟨e2, b3, b4⟩ := chk_ok h2.ok hx2
      have hrc : rchk s ln ld = if val ld = 0 then 6 else if (s = true ∧ val ln = 0) ∨ Nat.gcd (val ln) (val ld) ≠ 1 then 3 else 0 := by
        unfold rchk
        rw [hx1, hx2, if_neg (by decide), if_neg (by decide)]
      rw [hx1] at CK1
      rw [hx2] at CK2
      have CG := Lib.hid (fun F w hF h1 h2 => rgcd_any F A B c k (val ln) (val ld) w hF h1 h2 (by rw [← e1]; omega) (by rw [← e2]; omega))
      have CU := Lib.hid (fun X x w h => isone_any X x (Nat.gcd (val ln) (val ld)) w h)
      rw [← e1, ← e2] at CG
      have z1 : (val ln = 0 ∧ ln.length = 0) ∨ (val ln ≠ 0 ∧ 0 < ln.length) := by
        rw [show ln.length = (limbs (val ln)).length by rw [← e1]]
        by_cases h : val ln = 0
        · left; rw [h]; exact ⟨rfl, by rw [limbs_zero]; rfl⟩
        · right; exact ⟨h, (limbs_ne h).2⟩
      have z2 : (val ld = 0 ∧ ld.length = 0) ∨ (val ld ≠ 0 ∧ 0 < ld.length) := by
        rw [show ld.length = (limbs (val ld)).length by rw [← e2]]
        by_cases h : val ld = 0
        · left; rw [h]; exact ⟨rfl, by rw [limbs_zero]; rfl⟩
        · right; exact ⟨h, (limbs_ne h).2⟩
      unfold RAli at CG
      clear h1 h2 hx1 hx2 e1 e2 b1 b2 b3 b4
      generalize ln.length = n1 at *
      generalize ld.length = n2 at *
      rw [hrc]
      clear hrc
      generalize val ln = v1 at *
      generalize val ld = v2 at *
      rcases z2 with ⟨k1, k2⟩ | ⟨k1, k2⟩
      · rw [if_pos k1]
        clear k1
        subst k2
        go_enter Tryz.func23, Tryz.ntmps23
        go_wp2_with (with_reducible refine G.any_mark _ ?_; (try generalize Array.size (World.heap (G.w _)) = bk); (try dsimp only [List.set_cons_zero, List.set_cons_succ]); (try clear g); intro g)
        refine (CK1.out _ (G.sl g (by simp) H1.out)).mono ?_
        rintro e w1 ⟨rfl, hb⟩
        obtain ⟨g1, rfl⟩ := G.call_ex _ hb
        clear hb
        (try clear g)
        revert g1
        intro g
        go_wp2_with (with_reducible refine G.any_mark _ ?_; (try generalize Array.size (World.heap (G.w _)) = bk); (try dsimp only [List.set_cons_zero, List.set_cons_succ]); (try clear g); intro g)
        refine (CK2.out _ (G.sl g (by simp) H2.out)).mono ?_
        rintro e w1 ⟨rfl, hb⟩
        obtain ⟨g1, rfl⟩ := G.call_ex _ hb
        clear hb
        (try clear g)
        revert g1
        intro g
        go_wp2_with (with_reducible refine G.any_mark _ ?_; (try generalize Array.size (World.heap (G.w _)) = bk); (try dsimp only [List.set_cons_zero, List.set_cons_succ]); (try clear g); intro g)
        go_ret
        exact ⟨rfl, G.below _⟩
      · rw [if_neg k1]
        have k3 : ((n2 : Int) == 0) = false := by rw [beq_eq_false_iff_ne]; omega
        by_cases hz : s = true ∧ v1 = 0
        · rw [if_pos (.inl hz)]
          obtain ⟨rfl, hz0⟩ := hz
          rcases z1 with ⟨k4, k5⟩ | ⟨k4, k5⟩
          · clear k4 hz0
            subst k5
            go_enter Tryz.func23, Tryz.ntmps23
            go_wp2_with (with_reducible refine G.any_mark _ ?_; (try generalize Array.size (World.heap (G.w _)) = bk); (try dsimp only [List.set_cons_zero, List.set_cons_succ]); (try clear g); intro g)
            refine (CK1.out _ (G.sl g (by simp) H1.out)).mono ?_
            rintro e w1 ⟨rfl, hb⟩
            obtain ⟨g1, rfl⟩ := G.call_ex _ hb
            clear hb
            (try clear g)
            revert g1
            intro g
            go_wp2_with (with_reducible refine G.any_mark _ ?_; (try generalize Array.size (World.heap (G.w _)) = bk); (try dsimp only [List.set_cons_zero, List.set_cons_succ]); (try clear g); intro g)
            refine (CK2.out _ (G.sl g (by simp) H2.out)).mono ?_
            rintro e w1 ⟨rfl, hb⟩
            obtain ⟨g1, rfl⟩ := G.call_ex _ hb
            clear hb
            (try clear g)
            revert g1
            intro g
            go_wp2_with (with_reducible refine G.any_mark _ ?_; (try generalize Array.size (World.heap (G.w _)) = bk); (try dsimp only [List.set_cons_zero, List.set_cons_succ]); (try clear g); intro g)
            go_ret
            exact ⟨rfl, G.below _⟩
          · exact absurd hz0 k4
        · have k6 : s = true → ((n1 : Int) == 0) = false := by
            intro hs
            rcases z1 with ⟨k4, k5⟩ | ⟨k4, k5⟩
            · exact absurd ⟨hs, k4⟩ hz
            · rw [beq_eq_false_iff_ne]; omega
          have hor : ((s = true ∧ v1 = 0) ∨ Nat.gcd v1 v2 ≠ 1) ↔ Nat.gcd v1 v2 ≠ 1 := ⟨fun h => h.elim (fun h => absurd h hz) id, .inr⟩
          simp only [hor]
          clear hor hz z1 k1 k2
          obtain ⟨bg, hbg⟩ : ∃ b, decide (Nat.gcd v1 v2 = 1) = b := ⟨_, rfl⟩
          have hfin : (if Nat.gcd v1 v2 ≠ 1 then (3 : Int) else 0) = if bg = true then 0 else 3 := by
            rw [← hbg]
            by_cases h : Nat.gcd v1 v2 = 1
            · rw [if_neg (by simpa using h), if_pos (by simpa using h)]
            · rw [if_pos h, if_neg (by simpa using h)]
          rw [hfin]
          rw [hbg] at CU
          clear hfin hbg
          cases s
          all_goals
            (try have k7 := k6 rfl)
            clear k6
            go_enter Tryz.func23, Tryz.ntmps23
            go_wp2_with (with_reducible refine G.any_mark _ ?_; (try generalize Array.size (World.heap (G.w _)) = bk); (try dsimp only [List.set_cons_zero, List.set_cons_succ]); (try clear g); intro g)
            refine (CK1.out _ (G.sl g (by simp) H1.out)).mono ?_
            rintro e w1 ⟨rfl, hb⟩
            obtain ⟨g1, rfl⟩ := G.call_ex _ hb
            clear hb
            (try clear g)
            revert g1
            intro g
            go_wp2_with (with_reducible refine G.any_mark _ ?_; (try generalize Array.size (World.heap (G.w _)) = bk); (try dsimp only [List.set_cons_zero, List.set_cons_succ]); (try clear g); intro g)
            refine (CK2.out _ (G.sl g (by simp) H2.out)).mono ?_
            rintro e w1 ⟨rfl, hb⟩
            obtain ⟨g1, rfl⟩ := G.call_ex _ hb
            clear hb
            (try clear g)
            revert g1
            intro g
            go_wp2_with (with_reducible refine G.any_mark _ ?_; (try generalize Array.size (World.heap (G.w _)) = bk); (try dsimp only [List.set_cons_zero, List.set_cons_succ]); (try clear g); intro g)
            refine (CG.out (g.fr (heapOf w)) _ (g.fr_sub (by simp)) (g.fr_sl (by simp) (Frag.over_self _ _) H1.out) (g.fr_sl (by simp) (Frag.over_self _ _) H2.out)).mono ?_
            rintro e w1 ⟨Ag, cg, Fg, rfl, hsg, hng⟩
            obtain ⟨g1, rfl, hov⟩ := g.newor_ex hng
            clear hng
            (try clear g)
            revert g1
            intro g
            go_wp2_with (with_reducible refine G.any_mark _ ?_; (try generalize Array.size (World.heap (G.w _)) = bk); (try dsimp only [List.set_cons_zero, List.set_cons_succ]); (try clear g); intro g)
            refine (CU.out Ag cg _ (G.sl g (by simp) hsg)).mono ?_
            rintro e w1 ⟨rfl, rfl⟩
            cases bg
            all_goals
              go_wp2_with (with_reducible refine G.any_mark _ ?_; (try generalize Array.size (World.heap (G.w _)) = bk); (try dsimp only [List.set_cons_zero, List.set_cons_succ]); (try clear g); intro g)
              go_ret
              exact ⟨rfl, G.below _⟩
    · have hp := chk_pos ld
      have hrc : rchk s ln ld = chk ld := by unfold rchk; rw [if_neg (by simpa using hx1), if_pos hx2]
      rw [hrc]
      rw [hx1] at CK1
      clear hrc hx1 h1 h2
      generalize ln.length = n1 at *
      generalize ld.length = n2 at *
      generalize chk ld = x2 at *
      rcases hp with h | h | h
      · exact absurd h hx2
      all_goals
        subst h
        clear hx2
        go_enter Tryz.func23, Tryz.ntmps23
        go_wp2_with (with_reducible refine G.any_mark _ ?_; (try generalize Array.size (World.heap (G.w _)) = bk); (try dsimp only [List.set_cons_zero, List.set_cons_succ]); (try clear g); intro g)
        refine (CK1.out _ (G.sl g (by simp) H1.out)).mono ?_
        rintro e w1 ⟨rfl, hb⟩
        obtain ⟨g1, rfl⟩ := G.call_ex _ hb
        clear hb
        (try clear g)
        revert g1
        intro g
        go_wp2_with (with_reducible refine G.any_mark _ ?_; (try generalize Array.size (World.heap (G.w _)) = bk); (try dsimp only [List.set_cons_zero, List.set_cons_succ]); (try clear g); intro g)
        refine (CK2.out _ (G.sl g (by simp) H2.out)).mono ?_
        rintro e w1 ⟨rfl, hb⟩
        obtain ⟨g1, rfl⟩ := G.call_ex _ hb
        clear hb
        (try clear g)
        revert g1
        intro g
        go_wp2_with (with_reducible refine G.any_mark _ ?_; (try generalize Array.size (World.heap (G.w _)) = bk); (try dsimp only [List.set_cons_zero, List.set_cons_succ]); (try clear g); intro g)
        go_ret
        exact ⟨rfl, G.below _⟩
  · have hp := chk_pos ln
    have hrc : rchk s ln ld = chk ln := by unfold rchk; rw [if_pos hx1]
    rw [hrc]
    clear hrc h1 h2
    generalize ln.length = n1 at *
    generalize ld.length = n2 at *
    generalize chk ln = x1 at *
    rcases hp with h | h | h
    · exact absurd h hx1
    all_goals
      subst h
      clear hx1
      go_enter Tryz.func23, Tryz.ntmps23
      go_wp2_with (with_reducible refine G.any_mark _ ?_; (try generalize Array.size (World.heap (G.w _)) = bk); (try dsimp only [List.set_cons_zero, List.set_cons_succ]); (try clear g); intro g)
      refine (CK1.out _ (G.sl g (by simp) H1.out)).mono ?_
      rintro e w1 ⟨rfl, hb⟩
      obtain ⟨g1, rfl⟩ := G.call_ex _ hb
      clear hb
      (try clear g)
      revert g1
      intro g
      go_wp2_with (with_reducible refine G.any_mark _ ?_; (try generalize Array.size (World.heap (G.w _)) = bk); (try dsimp only [List.set_cons_zero, List.set_cons_succ]); (try clear g); intro g)
      go_ret
      exact ⟨rfl, G.below _⟩
/-- Fits of numbers of few limbs, and of many. -/
theorem rFits_ok (s : Bool) (A B : Option Addr) (c k n d : Nat) (hn : n ≤ 256) (hd : d ≤ 256) (w : World) :
    Calls Tryz.prog 47 #[.agg #[.bool s, .slice A n c, .slice B d k]] w fun e w' => e = .returned (.tuple #[.agg #[.bool s, .slice A n c, .slice B d k], .int .i64 0]) ∧ Below w.heap.size w w' := by
  refine calls_b fun g => ?_
  have h1 : ¬ (256 : Int) < (n : Int) := by omega
  have h2 : ¬ (256 : Int) < (d : Int) := by omega
  clear hn hd
  go_enter Tryz.func47, Tryz.ntmps47
  go_wp2_with (with_reducible refine G.any_mark _ ?_; (try generalize Array.size (World.heap (G.w _)) = bk); (try dsimp only [List.set_cons_zero, List.set_cons_succ]); (try clear g); intro g)
  refine bodyPost_ret (v := .tuple #[.agg #[.bool s, .slice A n c, .slice B d k], .int .i64 0]) (by simp [results, Tryz.results47, go_sem]) rfl ?_
  exact ⟨rfl, G.below _⟩
theorem rFits_over (s : Bool) (A B : Option Addr) (c k n d : Nat) (hn : ¬ (n ≤ 256 ∧ d ≤ 256)) (w : World) :
    Calls Tryz.prog 47 #[.agg #[.bool s, .slice A n c, .slice B d k]] w fun e w' => e = .returned (.tuple #[.agg #[.bool false, .slice none 0 0, .slice none 0 0], .int .i64 5]) ∧ Below w.heap.size w w' := by
  refine calls_b fun g => ?_
  by_cases hn2 : n ≤ 256
  · have h1 : ¬ (256 : Int) < (n : Int) := by omega
    have h2 : (256 : Int) < (d : Int) := by omega
    clear hn hn2
    go_enter Tryz.func47, Tryz.ntmps47
    go_wp2_with (with_reducible refine G.any_mark _ ?_; (try generalize Array.size (World.heap (G.w _)) = bk); (try dsimp only [List.set_cons_zero, List.set_cons_succ]); (try clear g); intro g)
    refine bodyPost_ret (v := .tuple #[.agg #[.bool false, .slice none 0 0, .slice none 0 0], .int .i64 5]) (by simp [results, Tryz.results47, go_sem]) rfl ?_
    exact ⟨rfl, G.below _⟩
  · have h1 : (256 : Int) < (n : Int) := by omega
    clear hn hn2
    go_enter Tryz.func47, Tryz.ntmps47
    go_wp2_with (with_reducible refine G.any_mark _ ?_; (try generalize Array.size (World.heap (G.w _)) = bk); (try dsimp only [List.set_cons_zero, List.set_cons_succ]); (try clear g); intro g)
    refine bodyPost_ret (v := .tuple #[.agg #[.bool false, .slice none 0 0, .slice none 0 0], .int .i64 5]) (by simp [results, Tryz.results47, go_sem]) rfl ?_
    exact ⟨rfl, G.below _⟩
end Go.Proofs.YtjdnpkicdmapnaaGreatDoor
namespace Go.Proofs.YtjdnpkicdmapnaaGreatDoor
open Go.RowKit GW NL
theorem outX_bd {x : Rat} (h : Bd 8192 x) : outX x = (rneg x, rn x, x.den, 0) := by
  unfold outX outP; exact if_pos h
/-- Minus and Plus by the numbers of core's Rat. -/
theorem rMinus_x (x : Rat) (A1 A2 : Option Addr) (c1 c2 : Nat) (w : World) (h1 : SlW w A1 c1 (limbs (rn x))) (h2 : SlW w A2 c2 (limbs x.den)) (hl1 : (limbs (rn x)).length ≤ 10000000) (hl2 : (limbs x.den).length ≤ 10000000) :
    Calls Tryz.prog 43 #[.agg #[.bool (rneg x), .slice A1 (limbs (rn x)).length c1, .slice A2 (limbs x.den).length c2]] w (RNf (-x) w) := by
  unfold RNf
  rw [rneg_neg, rn_neg, Rat.neg_den]
  exact rMinus_any (rneg x) A1 A2 c1 c2 (rn x) x.den w h1 h2 hl1 hl2
theorem rPlus_x (x y : Rat) (A1 B1 A2 B2 : Option Addr) (c1 k1 c2 k2 : Nat) (w : World) (h1 : SlW w A1 c1 (limbs (rn x))) (j1 : SlW w B1 k1 (limbs x.den)) (h2 : SlW w A2 c2 (limbs (rn y))) (j2 : SlW w B2 k2 (limbs y.den))
    (l1 : (limbs (rn x)).length ≤ 1000000) (m1 : (limbs x.den).length ≤ 1000000) (l2 : (limbs (rn y)).length ≤ 1000000) (m2 : (limbs y.den).length ≤ 1000000) :
    Calls Tryz.prog 48 #[.agg #[.bool (rneg x), .slice A1 (limbs (rn x)).length c1, .slice B1 (limbs x.den).length k1], .agg #[.bool (rneg y), .slice A2 (limbs (rn y)).length c2, .slice B2 (limbs y.den).length k2]] w (RNf (x + y) w) := by
  have := rPlus_any (rneg x) (rneg y) A1 B1 A2 B2 c1 k1 c2 k2 (rn x) x.den (rn y) y.den w h1 j1 h2 j2 l1 m1 l2 m2 x.den_nz y.den_nz
  rwa [frac_self, frac_self] at this
end Go.Proofs.YtjdnpkicdmapnaaGreatDoor
namespace Go.Proofs.YtjdnpkicdmapnaaGreatDoor
open Go.RowKit GW NL
theorem limbs_bd {k j : Nat} {v : Nat} (h : v < 2 ^ k) (hk : k ≤ 32 * j) : (limbs v).length ≤ j := by
  refine (limbs_len _ _).2 (Nat.lt_of_lt_of_le h ?_)
  rw [show (4294967296 : Nat) = 2 ^ 32 from rfl, ← Nat.pow_mul]
  exact Nat.pow_le_pow_right (by decide) hk
theorem half_parts : rneg (1 / 2 : Rat) = false ∧ rn (1 / 2 : Rat) = 1 ∧ (1 / 2 : Rat).den = 2 := by
  refine ⟨?_, ?_, ?_⟩ <;> decide +kernel
/-- Plus of one half, as Near calls it. -/
theorem rPlus_half (x : Rat) (A1 B1 A2 B2 : Option Addr) (c1 k1 c2 k2 : Nat) (w : World) (h1 : SlW w A1 c1 (limbs (rn x))) (j1 : SlW w B1 k1 (limbs x.den)) (h2 : SlW w A2 c2 (limbs 1)) (j2 : SlW w B2 k2 (limbs 2))
    (l1 : (limbs (rn x)).length ≤ 1000000) (m1 : (limbs x.den).length ≤ 1000000) :
    Calls Tryz.prog 48 #[.agg #[.bool (rneg x), .slice A1 (limbs (rn x)).length c1, .slice B1 (limbs x.den).length k1], .agg #[.bool false, .slice A2 (limbs 1).length c2, .slice B2 1 k2]] w (RNf (x + 1 / 2) w) := by
  obtain ⟨e1, e2, e3⟩ := half_parts
  have := rPlus_x x (1 / 2) A1 B1 A2 B2 c1 k1 c2 k2 w h1 j1 (by rw [e2]; exact h2) (by rw [e3]; exact j2) l1 m1 (by rw [e2, limbs_one (by decide) (by decide)]; decide) (by rw [e3, limbs_one (by decide) (by decide)]; decide)
  rw [e1, e2, e3, limbs_one (n := 2) (by decide) (by decide)] at this
  exact this
/-- parts that are valid are those of a number -/
theorem rchk_val {s : Bool} {l m : List Nat} (hl : Ok l) (hm : Ok m) (h : rchk s l m = 0) : ∃ x : Rat, s = rneg x ∧ l = limbs (rn x) ∧ m = limbs x.den ∧ Bd 8192 x := by
  unfold rchk at h
  by_cases h1 : chk l = 0
  · rw [if_neg (by simpa using h1)] at h
    by_cases h2 : chk m = 0
    · rw [if_neg (by simpa using h2)] at h
      by_cases h3 : val m = 0
      · rw [if_pos h3] at h; exact absurd h (by decide)
      · rw [if_neg h3] at h
        by_cases h4 : (s = true ∧ val l = 0) ∨ Nat.gcd (val l) (val m) ≠ 1
        · rw [if_pos h4] at h; exact absurd h (by decide)
        · have hg : Nat.gcd (val l) (val m) = 1 := Decidable.byContradiction fun h => h4 (.inr h)
          obtain ⟨p1, p2, p3⟩ := frac_parts (s := s) h3 hg (fun hs h0 => h4 (.inl ⟨hs, h0⟩))
          obtain ⟨e1, b1, _⟩ := chk_ok hl h1
          obtain ⟨e2, b2, _⟩ := chk_ok hm h2
          exact ⟨frac s (val l) (val m), p1.symm, by rw [p2]; exact e1, by rw [p3]; exact e2, by rw [p2]; exact b1, by rw [p3]; exact b2⟩
    · rw [if_pos h2] at h; exact absurd h h2
  · rw [if_pos h1] at h; exact absurd h h1
theorem rchk_val0 {x : Rat} (h : Bd 8192 x) : rchk (rneg x) (limbs (rn x)) (limbs x.den) = 0 := by
  unfold rchk
  rw [chk_limbs h.1, chk_limbs h.2, val_limbs, val_limbs, if_neg (by decide), if_neg (by decide), if_neg x.den_nz, if_neg]
  rintro (⟨h1, h2⟩ | h1)
  · exact rneg_ne h1 h2
  · exact h1 (rgcd x)
theorem rchk_err (s : Bool) (l m : List Nat) : rchk s l m = 0 ∨ rchk s l m = 3 ∨ rchk s l m = 4 ∨ rchk s l m = 6 := by
  have p1 := chk_pos l
  have p2 := chk_pos m
  unfold rchk
  split
  · omega
  · split
    · omega
    · split
      · simp
      · split <;> simp
end Go.Proofs.YtjdnpkicdmapnaaGreatDoor
namespace Go.Proofs.YtjdnpkicdmapnaaGreatDoor
open Go.RowKit GW NL
theorem limbs_two63 : limbs 9223372036854775808 = [0, 2147483648] := lim2 (x := 0) (y := 2147483648) (by decide) (by decide) (by decide)
theorem limbs_inj {a b : Nat} : limbs a = limbs b ↔ a = b := ⟨fun h => by have := congrArg val h; rwa [val_limbs, val_limbs] at this, fun h => by rw [h]⟩
end Go.Proofs.YtjdnpkicdmapnaaGreatDoor
