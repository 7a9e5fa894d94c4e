/- Plain facts and contracts of functions of the program, out of walks. Their conditions stand ahead of each. -/
import Derived.Test.YtjdnpkicdmapnaaGreatDoorNm33
import Derived.Test.YtjdnpkicdmapnaaGreatDoorNm34
import Derived.Test.YtjdnpkicdmapnaaGreatDoorNm38
import Derived.Below
import Derived.BigQuiet
import Derived.Deep.Draws
import Derived.Deep.LoopGhost
import Derived.Deep.QuietTactic
import Derived.Deep.RegionHeld3
import Derived.Deep.RegionLaw
import Derived.Defers
import Derived.Ground.GgwProg
import Derived.LaidEql
import Derived.Laws.BytesString
import Derived.Laws.Cells
import Derived.Laws.Concat
import Derived.Laws.CopyOwn
import Derived.Laws.CopyRow
import Derived.Laws.IdiomStrings
import Derived.Laws.NewBlocks
import Derived.Laws.OwnMore
import Derived.Laws.Pointers
import Derived.Laws.Rows
import Derived.Laws.Runes
import Derived.Lib.BitFns
import Derived.Lib.Hide
import Derived.Lib.IndexLaws
import Derived.Lib.IndexMore
import Derived.Lib.ItoaNum
import Derived.Lib.TrailingZeros
import Derived.LoopIn
import Derived.LoopNIn
import Derived.Maps.AppendAt
import Derived.OrdersIn
import Derived.OwnWalk
import Derived.OwnWalkIn
import Derived.RangeFuncBound
import Derived.RangeFuncBox
import Derived.RangeFuncCalls
import Derived.RangeFuncLeaves
import Derived.RangeFuncNested
import Derived.Room.AppendFits
import Derived.RowKit3
import Derived.RowKitTokens
import Derived.Shelf.Abstract
import Derived.Shelf.GgClosure.StringsIndexFunc
import Derived.Shelf.GgClosure.StringsIndexFuncTop
import Derived.Shelf.RegionOpen
import Derived.Shelf.Small.Wraps
import Derived.Shelf.Spec.TrailingZeros
import Derived.Shelf.Strings.Cut
import Derived.Shelf.Strings.Prefix
import Derived.StillTactics
import Derived.StillTailTactics
import Derived.Stop.Asserts
import Derived.TacticsInMore
import Derived.Test.YtjdnpkicdmapnaaGreatDoorProg
import Derived.WalkKit
import Derived.WalkLawsBesides
import Derived.WalkMore
import Derived.WalkSpells
set_option linter.unusedVariables false
set_option linter.unusedSimpArgs false
set_option exponentiation.threshold 10000
namespace Go.Proofs.YtjdnpkicdmapnaaGreatDoor
open Go.RowKit GW NL
/-- an error beside no number -/
def RXe (x : Int) (w : World) (e : Ending) (w' : World) : Prop := ∃ A c F B k H, e = .returned (.tuple #[.agg #[.bool false, .slice A 0 c, .slice B 0 k], .int .i64 x]) ∧ F.Sl A c [] ∧ H.Sl B k [] ∧ New w w' F ∧ New w w' H
theorem rpe_e {f : FuncId} {args : Array Value} {w : World} {r : Bool × Nat × Nat × Int} {x : Int} (h : r = (false, 0, 0, x)) (H : Calls Tryz.prog f args w (RPE r w)) : Calls Tryz.prog f args w (RXe x w) := by
  subst h
  unfold RPE at H
  simp only [limbs_zero] at H
  exact H
theorem lbad_e (A B : Option Addr) (c k : Nat) (x : Int) (w : World) (h1 : SlW w A c []) (h2 : SlW w B k []) :
    Calls Tryz.prog 34 #[.agg #[.bool false, .slice A 0 c, .slice B 0 k], .int .i64 x, .int .i64 x] w fun e w' => e = .returned (.bool true) ∧ Below w.heap.size w w' := by
  refine calls_b fun g => ?_
  have C := Lib.hid (fun w (h1 : SlW w A c []) (h2 : SlW w B k []) => lsame_p false A B none none c k 0 0 0 0 w (by rw [limbs_zero]; exact h1) (by rw [limbs_zero]; exact h2) (by rw [limbs_zero]; exact Frag.Sl.nil _ _) (by rw [limbs_zero]; exact Frag.Sl.nil _ _))
  rw [limbs_len0] at C
  have H1 := Lib.hid h1
  have H2 := Lib.hid h2
  clear h1 h2
  go_enter Tryz.func34, Tryz.ntmps34
  go_wp2_with (with_reducible refine G.any_mark _ ?_; (try generalize Array.size (World.heap (G.w _)) = bk); (try dsimp only [List.set_cons_zero, List.set_cons_succ]); (try clear g); intro g)
  refine (C.out _ (G.sl g (by simp) H1.out) (G.sl g (by simp) H2.out)).mono ?_
  rintro e w1 ⟨rfl, hb⟩
  obtain ⟨g1, rfl⟩ := G.call_ex _ hb
  clear hb
  (try clear g)
  revert g1
  intro g
  go_wp2_with (with_reducible refine G.any_mark _ ?_; (try generalize Array.size (World.heap (G.w _)) = bk); (try dsimp only [List.set_cons_zero, List.set_cons_succ]); (try clear g); intro g)
  go_ret
  exact ⟨rfl, G.below _⟩
theorem qOf_e (a : Int) (h1 : -9223372036854775808 ≤ a) (h2 : a < 9223372036854775808) (w : World) (hT : Tab w) : Calls Tryz.prog 32 #[.int .i64 a, .int .i64 0] w (RXe 6 w) :=
  rpe_e (by unfold ofX; rw [if_pos rfl]) (qOf_any a 0 h1 h2 (by decide) (by decide) w hT)
theorem qDiv_e (A1 B1 A2 B2 : Option Addr) (c1 k1 c2 k2 : Nat) (x y : Rat) (hx : Bd 8192 x) (hy : Bd 8192 y) (h0 : rn y = 0) (w : World) (h1 : SlW w A1 c1 (limbs (rn x))) (j1 : SlW w B1 k1 (limbs x.den)) (h2 : SlW w A2 c2 (limbs (rn y))) (j2 : SlW w B2 k2 (limbs y.den)) (hT : Tab w) :
    Calls Tryz.prog 18 #[.agg #[.bool (rneg x), .slice A1 (limbs (rn x)).length c1, .slice B1 (limbs x.den).length k1], .agg #[.bool (rneg y), .slice A2 (limbs (rn y)).length c2, .slice B2 (limbs y.den).length k2]] w (RXe 6 w) := by
  refine rpe_e ?_ (qDiv_any (rneg x) (rneg y) A1 B1 A2 B2 c1 k1 c2 k2 _ _ _ _ w h1 j1 h2 j2 hT)
  rw [rchk_x hx, rchk_x hy, val_limbs, h0]
  rfl
/-- rat.Int at a number -/
theorem qInt_l (A B : Option Addr) (c k : Nat) (x : Rat) (v e : Int) (hv : intX (rneg x) (limbs (rn x)) (limbs x.den) = (v, e)) (w : World) (h1 : SlW w A c (limbs (rn x))) (h2 : SlW w B k (limbs x.den)) (hT : Tab w) :
    Calls Tryz.prog 37 #[.agg #[.bool (rneg x), .slice A (limbs (rn x)).length c, .slice B (limbs x.den).length k]] w fun r w' => r = .returned (.tuple #[.int .i64 v, .int .i64 e]) ∧ Below w.heap.size w w' := by
  have := qInt_any (rneg x) A B c k _ _ w h1 h2 hT
  rw [hv] at this
  exact this
theorem intX_x {x : Rat} (hx : Bd 8192 x) : intX (rneg x) (limbs (rn x)) (limbs x.den) = if x.den ≠ 1 then (0, 18) else if 9223372036854775808 < rn x ∨ (rn x = 9223372036854775808 ∧ rneg x = false) then (0, 5) else ((if rneg x = true then -(rn x : Int) else (rn x : Int)), 0) := by
  unfold intX
  rw [rchk_x hx, if_neg (by decide), val_limbs, val_limbs]
theorem ok1 {x : Nat} (h : x < 4294967296) : Ok [x] := Ok.cons h Ok.nil
theorem ok2' {x y : Nat} (h : x < 4294967296) (h2 : y < 4294967296) : Ok [x, y] := Ok.cons h (Ok.cons h2 Ok.nil)
theorem chkl_one {x : Nat} (h : x < 4294967296) (h0 : x ≠ 0) : chk [x] = 0 := by
  rw [← lim1 h h0]
  exact chk_limbs (Nat.lt_of_lt_of_le (show x < 2 ^ 32 by omega) (Nat.pow_le_pow_right (by decide) (by decide)))
theorem chkl_two63 : chk [0, 2147483648] = 0 := by
  rw [← limbs_two63]
  exact chk_limbs (Nat.lt_of_lt_of_le (show 9223372036854775808 < 2 ^ 64 by decide) (Nat.pow_le_pow_right (by decide) (by decide)))
theorem val_two63 : val [0, 2147483648] = 9223372036854775808 := by decide
theorem val_1 (x : Nat) : val [x] = x := by simp [val]
theorem int_top (A B : Option Addr) (w : World) (h1 : SlW w A 2 [0, 2147483648]) (h2 : SlW w B 1 [1]) (hT : Tab w) :
    Calls Tryz.prog 37 #[.agg #[.bool false, .slice A 2 2, .slice B 1 1]] w fun r w' => r = .returned (.tuple #[.int .i64 0, .int .i64 5]) ∧ Below w.heap.size w w' := by
  have := qInt_any false A B 2 1 _ _ w h1 h2 hT
  have e : intX false [0, 2147483648] [1] = (0, 5) := by
    have e2 : rchk false [0, 2147483648] [1] = 0 := by
      unfold rchk
      rw [chkl_two63, chkl_one (by decide) (by decide), val_two63, val_1]
      decide +kernel
    unfold intX
    rw [e2, val_two63, val_1]
    decide
  rw [e] at this
  exact this
theorem check_a (A B : Option Addr) (w : World) (h1 : SlW w A 1 [2]) (h2 : SlW w B 1 [4]) (hT : Tab w) :
    Calls Tryz.prog 22 #[.agg #[.bool false, .slice A 1 1, .slice B 1 1]] w fun e w' => e = .returned (.int .i64 3) ∧ Below w.heap.size w w' := by
  have := rcheck false A B 1 1 _ _ w h1 h2 hT
  have e : rchk false [2] [4] = 3 := by
    unfold rchk
    rw [chkl_one (by decide) (by decide), chkl_one (by decide) (by decide), val_1, val_1]
    decide +kernel
  rw [e] at this
  exact this
theorem check_b (B : Option Addr) (w : World) (h2 : SlW w B 1 [1]) (hT : Tab w) :
    Calls Tryz.prog 22 #[.agg #[.bool true, .slice none 0 0, .slice B 1 1]] w fun e w' => e = .returned (.int .i64 3) ∧ Below w.heap.size w w' := by
  have := rcheck true none B 0 1 _ _ w (Frag.Sl.nil _ _) h2 hT
  have e : rchk true [] [1] = 3 := by
    unfold rchk
    rw [chkl_one (by decide) (by decide), val_1]
    decide +kernel
  rw [e] at this
  exact this
theorem check_c (w : World) (hT : Tab w) :
    Calls Tryz.prog 22 #[.agg #[.bool false, .slice none 0 0, .slice none 0 0]] w fun e w' => e = .returned (.int .i64 6) ∧ Below w.heap.size w w' := by
  have := rcheck false none none 0 0 _ _ w (Frag.Sl.nil _ _) (Frag.Sl.nil _ _) hT
  have e : rchk false [] [] = 6 := by
    unfold rchk
    decide +kernel
  rw [e] at this
  exact this
theorem check_d (A : Option Addr) (w : World) (h1 : SlW w A 1 [0]) (hT : Tab w) :
    Calls Tryz.prog 22 #[.agg #[.bool false, .slice A 1 1, .slice none 0 0]] w fun e w' => e = .returned (.int .i64 3) ∧ Below w.heap.size w w' := by
  have := rcheck false A none 1 0 _ _ w h1 (Frag.Sl.nil _ _) hT
  have e : rchk false [0] [] = 3 := by
    unfold rchk
    rw [show chk [0] = 3 by decide]
    decide
  rw [e] at this
  exact this
/-- rat.Parse of a text with a fault -/
theorem qParse_e (t : ByteArray) (x : Int) (p : Nat) (pi : Int) (mx : Int) (hp : ((p : Nat) : Int) = pi) (w : World) (h : parP (bl t) = (x, p, (false, 0, 0))) (hm : w.cell? ⟨3, 0, none⟩ = some (.int .i64 mx)) (hg : w.cell? ⟨0, 0, none⟩ = some (.iface 145 (.agg #[.pointer (some ⟨4, 79, none⟩)]))) (hT : Tab w) :
    Calls Tryz.prog 27 #[.string t] w fun e w' => ∃ A c F B k H, e = .returned (.tuple #[.agg #[.bool false, .slice A 0 c, .slice B 0 k], .agg #[.int .i64 x, .int .i64 pi]]) ∧ F.Sl A c [] ∧ H.Sl B k [] ∧ New w w' F ∧ New w w' H := by
  have := qParse_any t mx w hm hg hT
  rw [h] at this
  unfold RPf at this
  simp only [limbs_zero, hp] at this
  exact this
theorem bl_ones (n : Nat) : bl (bstr (List.replicate n 49)) = List.replicate n 49 := bl_bstr fun x hx => by rw [List.eq_of_mem_replicate hx]; decide
theorem par_ones : parP (bl (bstr (List.replicate 5001 49))) = (4, 5000, (false, 0, 0)) := by
  rw [bl_ones]
  unfold parP
  rw [if_pos (by rw [List.length_replicate]; decide)]
theorem val_tops2 : val (List.replicate 256 4294967295) = 2 ^ 8192 - 1 := by
  have := val_tops 256
  have e : (4294967296 : Nat) ^ 256 = 2 ^ 8192 := by decide +kernel
  omega
theorem add_great (A B A2 B2 : Option Addr) (c k c2 k2 : Nat) (L : List Nat) (hL : List.replicate 256 4294967295 = L) (z : Rat) (hz : frac false 1 1 = z) (hb : Bd 8192 z) (w : World) (h1 : SlW w A c L) (j1 : SlW w B k [1]) (h2 : SlW w A2 c2 (limbs (rn z))) (j2 : SlW w B2 k2 (limbs z.den)) (hT : Tab w) :
    Calls Tryz.prog 12 #[.agg #[.bool false, .slice A 256 c, .slice B 1 k], .agg #[.bool (rneg z), .slice A2 (limbs (rn z)).length c2, .slice B2 (limbs z.den).length k2]] w (RXe 5 w) := by
  have H := qAdd_any false (rneg z) A B A2 B2 c k c2 k2 L [1] _ _ w h1 j1 h2 j2 hT
  have e : L.length = 256 := by rw [← hL]; exact List.length_replicate ..
  rw [e] at H
  refine rpe_e ?_ H
  have e2 : rchk false L [1] = 0 := by
    unfold rchk
    rw [← hL, chk_tops, chkl_one (by decide) (by decide), val_1]
    generalize val (List.replicate 256 4294967295) = V
    rw [if_neg (by decide), if_neg (by decide), if_neg (by decide), if_neg (by
      rintro (⟨h, _⟩ | h)
      · exact absurd h (by decide)
      · exact h (Nat.gcd_one_right V))]
  have e3 : fr false L [1] + fr (rneg z) (limbs (rn z)) (limbs z.den) = frac false (2 ^ 8192) 1 := by
    rw [fr_x, ← hz]
    unfold fr
    rw [← hL, val_tops2, val_1, frac_add_same false (by decide) (by decide)]
    (try (have : (2 ^ 8192 - 1) * 1 + 1 * 1 = 2 ^ 8192 := by have := Nat.pow_pos (n := 8192) (show 0 < 2 by decide); omega
          rw [this]))
  rw [e2, rchk_x hb, e3]
  obtain ⟨p1, p2, p3⟩ := nat_frac (2 ^ 8192)
  unfold out2 outX outP
  rw [p1, p2, p3]
  rw [if_neg (by decide), if_neg (by decide), if_neg (by intro h; exact Nat.lt_irrefl _ h.1)]
theorem round_great (A B : Option Addr) (c k : Nat) (L : List Nat) (hL : List.replicate 256 4294967295 = L) (w : World) (h1 : SlW w A c L) (j1 : SlW w B k [2]) (hT : Tab w) :
    Calls Tryz.prog 36 #[.agg #[.bool false, .slice A 256 c, .slice B 1 k]] w fun e w' => ∃ A c F B k H, e = .returned (.tuple #[.agg #[.bool false, .slice A 256 c, .slice B 1 k], .int .i64 0]) ∧ F.Sl A c (limbs (2 ^ 8191)) ∧ H.Sl B k (limbs 1) ∧ New w w' F ∧ New w w' H := by
  have H := qRound_any false A B c k L [2] w h1 j1 hT
  have e : L.length = 256 := by rw [← hL]; exact List.length_replicate ..
  rw [e] at H
  have e2 : rchk false L [2] = 0 := by
    unfold rchk
    rw [← hL, chk_tops, chkl_one (by decide) (by decide), val_1, val_tops2]
    decide +kernel
  have e3 : rdq (val L) (val [2]) = 2 ^ 8191 := by
    rw [← hL, val_tops2, val_1]
    decide +kernel
  rw [e2, e3] at H
  have e4 : out1 0 (outP (false && decide ((2 : Nat) ^ 8191 ≠ 0)) (2 ^ 8191) 1) = (false, 2 ^ 8191, 1, 0) := by
    unfold out1 outP
    rw [if_neg (by decide), if_pos ⟨Nat.pow_lt_pow_right (by decide) (by decide), Nat.lt_of_lt_of_le (show 1 < 2 ^ 1 by decide) (Nat.pow_le_pow_right (by decide) (by decide))⟩]
    rfl
  rw [e4] at H
  unfold RPE at H
  dsimp only at H
  rw [len_top, show limbs 1 = [1] from limbs_one (by decide) (by decide)] at H
  rw [show limbs 1 = [1] from limbs_one (by decide) (by decide)]
  rw [show ([2] : List Nat).length = 1 from rfl, show ([1] : List Nat).length = 1 from rfl] at H
  exact H
end Go.Proofs.YtjdnpkicdmapnaaGreatDoor
