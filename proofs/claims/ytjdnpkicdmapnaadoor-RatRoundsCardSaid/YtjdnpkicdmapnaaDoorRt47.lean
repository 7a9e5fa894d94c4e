/- Plain facts and contracts of functions of the program, out of walks. Their conditions stand ahead of each. -/
import Derived.Test.YtjdnpkicdmapnaaDoorRt2
import Derived.Test.YtjdnpkicdmapnaaDoorRt4
import Derived.Test.YtjdnpkicdmapnaaDoorRt37
import Derived.Test.YtjdnpkicdmapnaaDoorRt46
import Derived.Below
import Derived.BigQuiet
import Derived.Deep.Draws
import Derived.Deep.LoopGhost
import Derived.Deep.QuietTactic
import Derived.Deep.RegionHeld3
import Derived.Deep.RegionLaw
import Derived.Defers
import Derived.Laws.BytesString
import Derived.Laws.Cells
import Derived.Laws.CopyOwn
import Derived.Laws.CopyRow
import Derived.Laws.NewBlocks
import Derived.Laws.OwnMore
import Derived.Laws.Pointers
import Derived.Laws.Rows
import Derived.Lib.BitFns
import Derived.Lib.Hide
import Derived.Lib.ItoaNum
import Derived.Lib.TrailingZeros
import Derived.LoopIn
import Derived.LoopNIn
import Derived.Maps.AppendAt
import Derived.OrdersIn
import Derived.OwnWalk
import Derived.OwnWalkIn
import Derived.RangeFuncBound
import Derived.RangeFuncBox
import Derived.RangeFuncCalls
import Derived.RangeFuncLeaves
import Derived.RangeFuncNested
import Derived.RowKit3
import Derived.Shelf.Abstract
import Derived.Shelf.RegionOpen
import Derived.Shelf.Spec.TrailingZeros
import Derived.StillTactics
import Derived.StillTailTactics
import Derived.TacticsInMore
import Derived.Test.YtjdnpkicdmapnaaDoorProg
import Derived.WalkKit
import Derived.WalkLawsBesides
import Derived.WalkMore
import Derived.WalkSpells
set_option linter.unusedVariables false
set_option linter.unusedSimpArgs false
set_option exponentiation.threshold 10000
namespace Go.Proofs.YtjdnpkicdmapnaaDoor
open Go.RowKit GW NL
/-- what Make answers -/
def makX (s : Bool) (l m : List Nat) : Bool × Nat × Nat × Int := if chk l ≠ 0 then (false, 0, 0, chk l) else if chk m ≠ 0 then (false, 0, 0, chk m) else if val m = 0 then (false, 0, 0, 6) else outX (frac s (val l) (val m))
set_option maxRecDepth 20000 in
set_option maxHeartbeats 4000000 in
theorem qMake_any (s : Bool) (A B : Option Addr) (c k : Nat) (ln ld : List Nat) (w : World) (h1 : SlW w A c ln) (h2 : SlW w B k ld) (hT : Tab w) :
    Calls Tryd.prog 22 #[.bool s, .slice A ln.length c, .slice B ld.length k] w (RPE (makX s ln ld) w) := by
  refine calls_n fun g => ?_
  have CK1 := Lib.hid (fun w h => check_any A c ln w h)
  have CK2 := Lib.hid (fun w h => check_any B k ld w h)
  have HT := Lib.hid hT
  have P1 := chk_pos ln
  have P2 := chk_pos ld
  have K1 := Lib.hid (fun h => chk_ok h1.ok h)
  have K2 := Lib.hid (fun h => chk_ok h2.ok h)
  obtain ⟨RR, hRR⟩ : ∃ R, makX s ln ld = R := ⟨_, rfl⟩
  rw [hRR]
  unfold makX at hRR
  obtain ⟨x1, hx1⟩ : ∃ x, chk ln = x := ⟨_, rfl⟩
  obtain ⟨x2, hx2⟩ : ∃ x, chk ld = x := ⟨_, rfl⟩
  rw [hx1] at CK1 P1 K1
  rw [hx2] at CK2 P2 K2
  rw [hx1, hx2] at hRR
  have HRR := Lib.hid hRR
  have H1 := Lib.hid h1
  have H2 := Lib.hid h2
  clear hT hx1 hx2 h1 h2 hRR
  obtain ⟨n1, hn1⟩ : ∃ n, ln.length = n := ⟨_, rfl⟩
  obtain ⟨n2, hn2⟩ : ∃ n, ld.length = n := ⟨_, rfl⟩
  rw [hn1] at CK1 ⊢
  rw [hn2] at CK2 ⊢
  have HN1 := Lib.hid hn1
  have HN2 := Lib.hid hn2
  clear hn1 hn2
  go_enter Tryd.func22, Tryd.ntmps22
  go_wp2_with (with_reducible refine G.any_mark _ ?_; (try generalize Array.size (World.heap (G.w _)) = bk); (try dsimp only [List.set_cons_zero, List.set_cons_succ]); (try clear g); intro g)
  obtain ⟨lb, rfl⟩ : ∃ lb, lb = bk := ⟨_, rfl⟩
  obtain ⟨xb, rfl⟩ : ∃ xb, xb = bk := ⟨_, rfl⟩
  go_loopg [15] 2 (fun gk s13 wr => ((gk = 2 ∧ s13 = .int .i64 0) ∨ (gk = 1 ∧ s13 = .int .i64 1 ∧ x1 = 0) ∨ (gk = 0 ∧ s13 = .int .i64 2 ∧ x1 = 0 ∧ x2 = 0)) ∧ ∃ g : G w [] [(lb, 24, [.slice A n1 c, .slice B n2 k]), (xb, 26, [.bool false, .slice none 0 0, .slice none 0 0])] [heapOf w, nilF], wr = g.w)
  case atStart => exact ⟨.inl ⟨rfl, rfl⟩, g, rfl⟩
  case round =>
    clear g
    obtain ⟨hst, g, rfl⟩ := hrel
    rcases hst with ⟨rfl, rfl⟩ | ⟨rfl, rfl, rfl⟩ | ⟨rfl, rfl, rfl, rfl⟩
    · go_wp2_with (with_reducible refine G.any_mark _ ?_; (try generalize Array.size (World.heap (G.w _)) = bk); (try dsimp only [List.set_cons_zero, List.set_cons_succ]); (try clear g); intro g)
      refine (CK1.out _ (G.sl g (by simp) H1.out)).mono ?_
      rintro e w1 ⟨rfl, hb⟩
      obtain ⟨g1, rfl⟩ := G.call_ex _ hb
      clear hb
      (try clear g)
      revert g1
      intro g
      rcases P1 with rfl | rfl | rfl
      · go_wp2_with (with_reducible refine G.any_mark _ ?_; (try generalize Array.size (World.heap (G.w _)) = bk); (try dsimp only [List.set_cons_zero, List.set_cons_succ]); (try clear g); intro g)
        go_roundg 1
        case measure => omega
        case rel => exact ⟨by simp, g, rfl⟩
      · go_wp2_with (with_reducible refine G.any_mark _ ?_; (try generalize Array.size (World.heap (G.w _)) = bk); (try dsimp only [List.set_cons_zero, List.set_cons_succ]); (try clear g); intro g)
        refine bodyPost_ret (v := .tuple #[.agg #[.bool false, .slice none 0 0, .slice none 0 0], .int .i64 3]) (by simp [results, Tryd.results22, go_sem]) rfl ?_
        rw [← HRR.out, if_pos (by decide)]
        exact rpe_err _ _
      · go_wp2_with (with_reducible refine G.any_mark _ ?_; (try generalize Array.size (World.heap (G.w _)) = bk); (try dsimp only [List.set_cons_zero, List.set_cons_succ]); (try clear g); intro g)
        refine bodyPost_ret (v := .tuple #[.agg #[.bool false, .slice none 0 0, .slice none 0 0], .int .i64 4]) (by simp [results, Tryd.results22, go_sem]) rfl ?_
        rw [← HRR.out, if_pos (by decide)]
        exact rpe_err _ _
    · go_wp2_with (with_reducible refine G.any_mark _ ?_; (try generalize Array.size (World.heap (G.w _)) = bk); (try dsimp only [List.set_cons_zero, List.set_cons_succ]); (try clear g); intro g)
      refine (CK2.out _ (G.sl g (by simp) H2.out)).mono ?_
      rintro e w1 ⟨rfl, hb⟩
      obtain ⟨g1, rfl⟩ := G.call_ex _ hb
      clear hb
      (try clear g)
      revert g1
      intro g
      rcases P2 with rfl | rfl | rfl
      · go_wp2_with (with_reducible refine G.any_mark _ ?_; (try generalize Array.size (World.heap (G.w _)) = bk); (try dsimp only [List.set_cons_zero, List.set_cons_succ]); (try clear g); intro g)
        go_roundg 0
        case measure => omega
        case rel => exact ⟨by simp, g, rfl⟩
      · go_wp2_with (with_reducible refine G.any_mark _ ?_; (try generalize Array.size (World.heap (G.w _)) = bk); (try dsimp only [List.set_cons_zero, List.set_cons_succ]); (try clear g); intro g)
        refine bodyPost_ret (v := .tuple #[.agg #[.bool false, .slice none 0 0, .slice none 0 0], .int .i64 3]) (by simp [results, Tryd.results22, go_sem]) rfl ?_
        rw [← HRR.out, if_neg (by decide), if_pos (by decide)]
        exact rpe_err _ _
      · go_wp2_with (with_reducible refine G.any_mark _ ?_; (try generalize Array.size (World.heap (G.w _)) = bk); (try dsimp only [List.set_cons_zero, List.set_cons_succ]); (try clear g); intro g)
        refine bodyPost_ret (v := .tuple #[.agg #[.bool false, .slice none 0 0, .slice none 0 0], .int .i64 4]) (by simp [results, Tryd.results22, go_sem]) rfl ?_
        rw [← HRR.out, if_neg (by decide), if_pos (by decide)]
        exact rpe_err _ _
    · obtain ⟨e1, b1, b2⟩ := K1.out rfl
      obtain ⟨e2, b3, b4⟩ := K2.out rfl
      obtain ⟨v1, hv1⟩ : ∃ v, val ln = v := ⟨_, rfl⟩
      obtain ⟨v2, hv2⟩ : ∃ v, val ld = v := ⟨_, rfl⟩
      have hrr := HRR.out
      rw [if_neg (by decide), if_neg (by decide), hv1, hv2] at hrr
      rw [hv1] at e1
      rw [hv2] at e2
      have s1 := H1.out
      have s2 := H2.out
      rw [e1] at s1
      rw [e2] at s2
      have hl1 : (limbs v1).length = n1 := by rw [← e1]; exact HN1.out
      have hl2 : (limbs v2).length = n2 := by rw [← e2]; exact HN2.out
      rw [e1] at b2
      rw [e2] at b4
      have S1 := Lib.hid s1
      have S2 := Lib.hid s2
      by_cases hz : v2 = 0
      · rw [if_pos hz] at hrr
        have hn0 : n2 = 0 := by rw [← hl2, hz]; exact limbs_len0
        clear hl1 hl2 b2 b4 e1 e2 s1 s2 hv1 hv2 K1 K2 CK1 CK2 P1 P2
        subst hn0
        have HRR2 := Lib.hid hrr
        clear hrr
        go_wp2_with (with_reducible refine G.any_mark _ ?_; (try generalize Array.size (World.heap (G.w _)) = bk); (try dsimp only [List.set_cons_zero, List.set_cons_succ]); (try clear g); intro g)
        refine bodyPost_ret (v := .tuple #[.agg #[.bool false, .slice none 0 0, .slice none 0 0], .int .i64 6]) (by simp [results, Tryd.results22, go_sem]) rfl ?_
        rw [← HRR2.out]
        exact rpe_err _ _
      · rw [if_neg hz] at hrr
        have hn0 : ((n2 : Int) == 0) = false := by rw [beq_eq_false_iff_ne]; have := (limbs_ne hz).2; omega
        have CL := Lib.hid (fun F w hF h1 h2 hT => (by
          have := low_rat F s A B c k v1 v2 w hF h1 h2 hT (by omega) (by omega) hz
          rw [hl1, hl2] at this
          exact this : Calls Tryd.prog 53 #[.agg #[.bool s, .slice A n1 c, .slice B n2 k]] w (RRa F (frac s v1 v2) w)))
        generalize frac s v1 v2 = x at *
        have CR := Lib.hid (fun A B c k w h1 h2 => result_any (rneg x) A B c k (rn x) x.den w h1 h2)
        unfold outX at hrr
        rw [hrr] at CR
        clear hl1 hl2 b2 b4 e1 e2 s1 s2 hv1 hv2 K1 K2 CK1 CK2 P1 P2 hrr hz
        go_wp2_with (with_reducible refine G.any_mark _ ?_; (try generalize Array.size (World.heap (G.w _)) = bk); (try dsimp only [List.set_cons_zero, List.set_cons_succ]); (try clear g); intro g)
        refine (CL.out (g.fr (heapOf w)) _ (g.fr_sub (by simp)) (g.fr_sl (by simp) (Frag.over_self _ _) S1.out) (g.fr_sl (by simp) (Frag.over_self _ _) S2.out) (G.tab g HT.out)).mono ?_
        rintro e w1 ⟨Y1, y1, Q1, Y2, y2, Q2, rfl, hy1, hy2, hn1, hn2⟩
        obtain ⟨g1, rfl, hov1, hov2⟩ := G.new3_ex g hn1 hn2
        clear hn1 hn2
        (try clear g)
        revert g1
        intro g
        go_wp2_with (with_reducible refine G.any_mark _ ?_; (try generalize Array.size (World.heap (G.w _)) = bk); (try dsimp only [List.set_cons_zero, List.set_cons_succ]); (try clear g); intro g)
        refine (CR.out _ _ _ _ _ (G.sl g (by simp) hy1) (G.sl g (by simp) hy2)).mono ?_
        rintro e w1 ⟨Z1, z1, R1, Z2, z2, R2, rfl, hz1, hz2, hn1, hn2⟩
        have ho1 := fun k o hk => Nat.le_trans (G.chg _).size (hn1.new k o hk)
        have ho2 := fun k o hk => Nat.le_trans (G.chg _).size (hn2.new k o hk)
        obtain ⟨g1, rfl⟩ := G.new2_ex _ hn1 hn2
        clear hn1 hn2
        (try clear g)
        revert g1
        intro g
        go_wp2_with (with_reducible refine G.any_mark _ ?_; (try generalize Array.size (World.heap (G.w _)) = bk); (try dsimp only [List.set_cons_zero, List.set_cons_succ]); (try clear g); intro g)
        refine bodyPost_ret (v := .tuple #[.agg #[.bool RR.1, .slice Z1 (limbs RR.2.1).length z1, .slice Z2 (limbs RR.2.2.1).length z2], .int .i64 RR.2.2.2]) (by simp [results, Tryd.results22, go_sem]) rfl ?_
        exact ⟨Z1, z1, R1, Z2, z2, R2, rfl, hz1, hz2, G.pass _ (by simp) ho1, G.pass _ (by simp) ho2⟩
end Go.Proofs.YtjdnpkicdmapnaaDoor
namespace Go.Proofs.YtjdnpkicdmapnaaDoor
open Go.RowKit GW NL
theorem or_u64_comm (x y : Int) : bits .or .u64 x y = bits .or .u64 y x := by
  show IntKind.u64.wrap ((BitVec.ofInt 64 x ||| BitVec.ofInt 64 y).toNat : Int) = IntKind.u64.wrap ((BitVec.ofInt 64 y ||| BitVec.ofInt 64 x).toNat : Int)
  rw [BitVec.or_comm]
theorem or_u64_add (x y k : Nat) (hk : k ≤ 63) (hx : x < 2 ^ k) (hy : y + x < 18446744073709551616) (hd : y % 2 ^ k = 0) : bits .or .u64 (x : Int) (y : Int) = ((y + x : Nat) : Int) := by
  have lt : 2 ^ k ≤ 2 ^ 63 := Nat.pow_le_pow_right (by omega) hk
  have e : (BitVec.ofInt 64 (x : Int) ||| BitVec.ofInt 64 (y : Int)).toNat = y + x := by
    rw [BitVec.toNat_or, BitVec.ofInt_natCast, BitVec.ofInt_natCast, BitVec.toNat_ofNat, BitVec.toNat_ofNat, Nat.mod_eq_of_lt (by omega), Nat.mod_eq_of_lt (by omega)]
    have hm : y = 2 ^ k * (y / 2 ^ k) := by have := Nat.div_add_mod y (2 ^ k); omega
    rw [Nat.or_comm]
    conv => lhs; rw [hm]
    rw [← Nat.two_pow_add_eq_or_of_lt hx]
    omega
  show IntKind.u64.wrap ((BitVec.ofInt 64 (x : Int) ||| BitVec.ofInt 64 (y : Int)).toNat : Int) = _
  rw [e, IntKind.wrap_u64]
  omega
/-- what Int answers -/
def intX (s : Bool) (l m : List Nat) : Int × Int := if rchk s l m ≠ 0 then (0, rchk s l m) else if val m ≠ 1 then (0, 18) else if 9223372036854775808 < val l ∨ (val l = 9223372036854775808 ∧ s = false) then (0, 5) else ((if s = true then -(val l : Int) else (val l : Int)), 0)
set_option maxRecDepth 20000 in
set_option maxHeartbeats 4000000 in
theorem qInt_any (s : Bool) (A B : Option Addr) (c k : Nat) (l m : List Nat) (w : World) (h1 : SlW w A c l) (h2 : SlW w B k m) (hT : Tab w) :
    Calls Tryd.prog 28 #[.agg #[.bool s, .slice A l.length c, .slice B m.length k]] w fun e w' => e = .returned (.tuple #[.int .i64 (intX s l m).1, .int .i64 (intX s l m).2]) ∧ Below w.heap.size w w' := by
  refine calls_b fun g => ?_
  have CK := Lib.hid (fun w a b t => rcheck s A B c k l m w a b t)
  obtain ⟨RR, hRR⟩ : ∃ R, intX s l m = R := ⟨_, rfl⟩
  rw [hRR]
  unfold intX at hRR
  by_cases hx : rchk s l m = 0
  · rw [hx] at CK
    rw [if_neg (by omega)] at hRR
    obtain ⟨e1, e2, e3, _, _, e6, e7⟩ := rchk_ok h1.ok h2.ok hx
    have CO := Lib.hid (fun w => of_any s A B c k l.length m.length w)
    have CU := Lib.hid (fun w h => lunit_any B k (val m) w h)
    rw [← e2] at CU
    by_cases hd : val m = 1
    · rw [if_neg (by omega)] at hRR
      rw [decide_eq_true hd] at CU
      have CL0 := Lib.hid (fun w h => lat_any A c l 0 w h (by omega))
      have CL1 := Lib.hid (fun w h => lat_any A c l 1 w h (by omega))
      rw [show ((0 : Nat) : Int) = 0 from rfl] at CL0
      rw [show ((1 : Nat) : Int) = 1 from rfl] at CL1
      have g0 := getD_val l h1.ok 0
      have g1 := getD_val l h1.ok 1
      rw [Nat.pow_zero, Nat.div_one] at g0
      rw [Nat.pow_one] at g1
      have hlen : l.length ≤ 2 ↔ val l < 18446744073709551616 := by
        rw [show l.length = (limbs (val l)).length by rw [← e1], limbs_len]
      generalize l.getD 0 0 = x at *
      generalize l.getD 1 0 = y at *
      generalize val l = V at *
      have H1 := Lib.hid h1
      have H2 := Lib.hid h2
      have HT := Lib.hid hT
      clear h1 h2 hT hx e1 e2 e3 e6 e7 hd
      generalize l.length = n at *
      generalize m.length = d at *
      have hx9 : x < 4294967296 := by omega
      have hy9 : y < 4294967296 := by omega
      obtain ⟨M, hM⟩ : ∃ M, V % 18446744073709551616 = M := ⟨_, rfl⟩
      have hyM : y * 4294967296 + x = M := by omega
      have hor : bits .or .u64 ((y : Int) * 4294967296) (x : Int) = (M : Int) := by
        rw [show (y : Int) * 4294967296 = ((y * 4294967296 : Nat) : Int) by omega, or_u64_comm, or_u64_add _ _ 32 (by omega) (by omega) (by omega) (by omega)]
        omega
      have hw1 : IntKind.u64.wrap (y : Int) = (y : Int) := by rw [IntKind.wrap_u64]; omega
      have hw2 : IntKind.u64.wrap (x : Int) = (x : Int) := by rw [IntKind.wrap_u64]; omega
      have hw3 : IntKind.u64.wrap ((y : Int) * 4294967296) = (y : Int) * 4294967296 := by rw [IntKind.wrap_u64]; omega
      have HV := Lib.hid (And.intro hlen (And.intro hM hRR))
      clear hlen hM hRR g0 g1
      go_enter Tryd.func28, Tryd.ntmps28
      go_wp2_with (with_reducible refine G.any_mark _ ?_; (try generalize Array.size (World.heap (G.w _)) = bk); (try dsimp only [List.set_cons_zero, List.set_cons_succ]); (try clear g); intro g)
      refine (CK.out _ (G.sl g (by simp) H1.out) (G.sl g (by simp) H2.out) (G.tab g HT.out)).mono ?_
      rintro e w1 ⟨rfl, hb⟩
      obtain ⟨g1, rfl⟩ := G.call_ex _ hb
      clear hb
      (try clear g)
      revert g1
      intro g
      go_wp2_with (with_reducible refine G.any_mark _ ?_; (try generalize Array.size (World.heap (G.w _)) = bk); (try dsimp only [List.set_cons_zero, List.set_cons_succ]); (try clear g); intro g)
      refine (CO.out _).mono ?_
      rintro e w1 ⟨rfl, hb⟩
      obtain ⟨g1, rfl⟩ := G.call_ex _ hb
      clear hb
      (try clear g)
      revert g1
      intro g
      go_wp2_with (with_reducible refine G.any_mark _ ?_; (try generalize Array.size (World.heap (G.w _)) = bk); (try dsimp only [List.set_cons_zero, List.set_cons_succ]); (try clear g); intro g)
      (try (refine cmark _ ?_; (try dsimp only [List.set_cons_zero, List.set_cons_succ]); (try clear g); intro g))
      refine (CU.out _ (G.sl g (by simp) H2.out)).mono ?_
      rintro e w1 ⟨rfl, rfl⟩
      go_wp2_with (with_reducible refine G.any_mark _ ?_; (try generalize Array.size (World.heap (G.w _)) = bk); (try dsimp only [List.set_cons_zero, List.set_cons_succ]); (try clear g); intro g)
      go_region_held3 (G.heldN g [true, true]) (simp [G.heldN, HeldN, go_sem]) (first
        | (go_at_call 61; (with_reducible refine (CL1.out _ ?_).mono ?_); (· exact G.sl _ (by simp) H1.out); rintro e w1 ⟨rfl, rfl⟩)
        | (go_at_call 61; (with_reducible refine (CL0.out _ ?_).mono ?_); (· exact G.sl _ (by simp) H1.out); rintro e w1 ⟨rfl, rfl⟩))
      all_goals obtain ⟨hlen, hM, hRR⟩ := HV.out
      all_goals clear HV hw1 hw2 hw3 hor hyM hx9 hy9 CL0 CL1 CU CO CK H1 H2 HT
      all_goals obtain ⟨q, hq⟩ : ∃ q : Int, (M : Int) = q := ⟨_, rfl⟩
      all_goals rw [hq]
      all_goals by_cases h2 : n ≤ 2
      all_goals (try have hV' : ¬ V < 18446744073709551616 := fun h => h2 (hlen.2 h))
      · have hV := hlen.1 h2
        rw [Nat.mod_eq_of_lt hV] at hM
        subst hM
        have h2i : ¬ ((2 : Int) < (n : Int)) := by omega
        clear hlen hV h2
        rcases Nat.lt_trichotomy V 9223372036854775808 with h3 | h3 | h3
        · rw [if_neg (by omega)] at hRR
          have h4 : ¬ ((9223372036854775808 : Int) < q) := by omega
          have h5 : (q == 9223372036854775808) = false := by rw [beq_eq_false_iff_ne]; omega
          have h8 : IntKind.i64.wrap q = q := by rw [IntKind.wrap_i64]; omega
          obtain ⟨N, hN⟩ : ∃ N, IntKind.u64.wrap (-q) = N := ⟨_, rfl⟩
          obtain ⟨r, hr⟩ : ∃ r, -q = r := ⟨_, rfl⟩
          have h9 : IntKind.i64.wrap N = r := by rw [← hN, IntKind.wrap_u64, IntKind.wrap_i64]; omega
          rw [hq, hr] at hRR
          clear hq h3 
          rcases s with _ | _
          · have HRR := Lib.hid hRR
            clear hRR hr hN h9
            go_wp2_with (with_reducible refine G.any_mark _ ?_; (try generalize Array.size (World.heap (G.w _)) = bk); (try dsimp only [List.set_cons_zero, List.set_cons_succ]); (try clear g); intro g)
            go_ret2
            rw [← HRR.out]
            exact ⟨rfl, G.below _⟩
          · have HRR := Lib.hid hRR
            have HR := Lib.hid hr
            clear hRR hr h8
            go_wp2_with (with_reducible refine G.any_mark _ ?_; (try generalize Array.size (World.heap (G.w _)) = bk); (try dsimp only [List.set_cons_zero, List.set_cons_succ]); (try clear g); intro g)
            go_ret2
            rw [← HRR.out]
            exact ⟨rfl, G.below _⟩
        · subst h3
          have hq' : q = 9223372036854775808 := by omega
          subst hq'
          have h8 : IntKind.u64.wrap (-9223372036854775808) = 9223372036854775808 := by rw [IntKind.wrap_u64]; omega
          have h9 : IntKind.i64.wrap 9223372036854775808 = -9223372036854775808 := by rw [IntKind.wrap_i64]; omega
          clear hq
          rcases s with _ | _
          · rw [if_pos (.inr ⟨rfl, rfl⟩)] at hRR
            have HRR := Lib.hid hRR
            clear hRR
            go_wp2_with (with_reducible refine G.any_mark _ ?_; (try generalize Array.size (World.heap (G.w _)) = bk); (try dsimp only [List.set_cons_zero, List.set_cons_succ]); (try clear g); intro g)
            go_ret2
            rw [← HRR.out]
            exact ⟨rfl, G.below _⟩
          · rw [if_neg (by simp), if_pos rfl] at hRR
            have HRR := Lib.hid hRR
            clear hRR
            go_wp2_with (with_reducible refine G.any_mark _ ?_; (try generalize Array.size (World.heap (G.w _)) = bk); (try dsimp only [List.set_cons_zero, List.set_cons_succ]); (try clear g); intro g)
            go_ret2
            rw [← HRR.out]
            exact ⟨rfl, G.below _⟩
        · rw [if_pos (.inl h3)] at hRR
          have h4 : (9223372036854775808 : Int) < q := by omega
          have HRR := Lib.hid hRR
          clear hRR hq h3
          go_wp2_with (with_reducible refine G.any_mark _ ?_; (try generalize Array.size (World.heap (G.w _)) = bk); (try dsimp only [List.set_cons_zero, List.set_cons_succ]); (try clear g); intro g)
          go_ret2
          rw [← HRR.out]
          exact ⟨rfl, G.below _⟩
      · rw [if_pos (.inl (by omega))] at hRR
        have h2i : (2 : Int) < (n : Int) := by omega
        have HRR := Lib.hid hRR
        clear hRR hq hlen hM hV' h2
        go_wp2_with (with_reducible refine G.any_mark _ ?_; (try generalize Array.size (World.heap (G.w _)) = bk); (try dsimp only [List.set_cons_zero, List.set_cons_succ]); (try clear g); intro g)
        go_ret2
        rw [← HRR.out]
        exact ⟨rfl, G.below _⟩
    · rw [if_pos hd] at hRR
      rw [decide_eq_false hd] at CU
      have HRR := Lib.hid hRR
      have H1 := Lib.hid h1
      have H2 := Lib.hid h2
      have HT := Lib.hid hT
      clear h1 h2 hT hx e1 e2 e3 e6 e7 hd hRR
      generalize l.length = n at *
      generalize m.length = d at *
      go_enter Tryd.func28, Tryd.ntmps28
      go_wp2_with (with_reducible refine G.any_mark _ ?_; (try generalize Array.size (World.heap (G.w _)) = bk); (try dsimp only [List.set_cons_zero, List.set_cons_succ]); (try clear g); intro g)
      refine (CK.out _ (G.sl g (by simp) H1.out) (G.sl g (by simp) H2.out) (G.tab g HT.out)).mono ?_
      rintro e w1 ⟨rfl, hb⟩
      obtain ⟨g1, rfl⟩ := G.call_ex _ hb
      clear hb
      (try clear g)
      revert g1
      intro g
      go_wp2_with (with_reducible refine G.any_mark _ ?_; (try generalize Array.size (World.heap (G.w _)) = bk); (try dsimp only [List.set_cons_zero, List.set_cons_succ]); (try clear g); intro g)
      refine (CO.out _).mono ?_
      rintro e w1 ⟨rfl, hb⟩
      obtain ⟨g1, rfl⟩ := G.call_ex _ hb
      clear hb
      (try clear g)
      revert g1
      intro g
      go_wp2_with (with_reducible refine G.any_mark _ ?_; (try generalize Array.size (World.heap (G.w _)) = bk); (try dsimp only [List.set_cons_zero, List.set_cons_succ]); (try clear g); intro g)
      (try (refine cmark _ ?_; (try dsimp only [List.set_cons_zero, List.set_cons_succ]); (try clear g); intro g))
      refine (CU.out _ (G.sl g (by simp) H2.out)).mono ?_
      rintro e w1 ⟨rfl, rfl⟩
      go_wp2_with (with_reducible refine G.any_mark _ ?_; (try generalize Array.size (World.heap (G.w _)) = bk); (try dsimp only [List.set_cons_zero, List.set_cons_succ]); (try clear g); intro g)
      go_ret2
      rw [← HRR.out]
      exact ⟨rfl, G.below _⟩
  · rw [if_pos hx] at hRR
    have hx' : (rchk s l m == 0) = false := by simpa using hx
    have hx'' : (rchk s l m != 0) = true := by simpa using hx
    have HRR := Lib.hid hRR
    have H1 := Lib.hid h1
    have H2 := Lib.hid h2
    have HT := Lib.hid hT
    clear h1 h2 hT hx hRR
    generalize rchk s l m = r at *
    generalize l.length = n at *
    generalize m.length = d at *
    go_enter Tryd.func28, Tryd.ntmps28
    go_wp2_with (with_reducible refine G.any_mark _ ?_; (try generalize Array.size (World.heap (G.w _)) = bk); (try dsimp only [List.set_cons_zero, List.set_cons_succ]); (try clear g); intro g)
    refine (CK.out _ (G.sl g (by simp) H1.out) (G.sl g (by simp) H2.out) (G.tab g HT.out)).mono ?_
    rintro e w1 ⟨rfl, hb⟩
    obtain ⟨g1, rfl⟩ := G.call_ex _ hb
    clear hb
    (try clear g)
    revert g1
    intro g
    go_wp2_with (with_reducible refine G.any_mark _ ?_; (try generalize Array.size (World.heap (G.w _)) = bk); (try dsimp only [List.set_cons_zero, List.set_cons_succ]); (try clear g); intro g)
    go_ret2
    rw [← HRR.out]
    exact ⟨rfl, G.below _⟩
end Go.Proofs.YtjdnpkicdmapnaaDoor
namespace Go.Proofs.YtjdnpkicdmapnaaDoor
open Go.RowKit GW NL
/-- a number without an error -/
def RX (x : Rat) (w : World) (e : Ending) (w' : World) : Prop := ∃ A c F B k H, e = .returned (.tuple #[.agg #[.bool (rneg x), .slice A (limbs (rn x)).length c, .slice B (limbs x.den).length k], .int .i64 0]) ∧ F.Sl A c (limbs (rn x)) ∧ H.Sl B k (limbs x.den) ∧ New w w' F ∧ New w w' H
theorem rchk_x {x : Rat} (h : Bd 8192 x) : rchk (rneg x) (limbs (rn x)) (limbs x.den) = 0 := by
  unfold rchk
  rw [chk_limbs h.1, chk_limbs h.2, val_limbs, val_limbs, if_neg (by decide), if_neg (by decide), if_neg x.den_nz, if_neg]
  rintro (⟨h1, h2⟩ | h1)
  · exact rneg_ne h1 h2
  · exact h1 (rgcd x)
theorem fr_x (x : Rat) : fr (rneg x) (limbs (rn x)) (limbs x.den) = x := by
  unfold fr; rw [val_limbs, val_limbs, frac_self]
theorem outX_x {x : Rat} (h : Bd 8192 x) : outX x = (rneg x, rn x, x.den, 0) := by
  unfold outX outP; exact if_pos h
theorem sgn_sgz (x : Rat) : sgn x = sgz x := rfl
theorem flq_eq (s : Bool) (n d : Nat) : flq s n d = flq' s n d := rfl
theorem rdq_eq (n d : Nat) : rdq n d = rdq' n d := rfl
section
variable (A1 B1 A2 B2 : Option Addr) (c1 k1 c2 k2 : Nat) (x y : Rat)
theorem qAdd_x (z : Rat) (hx : Bd 8192 x) (hy : Bd 8192 y) (hz : Bd 8192 z) (e : x + y = z) (w : World) (h1 : SlW w A1 c1 (limbs (rn x))) (j1 : SlW w B1 k1 (limbs x.den)) (h2 : SlW w A2 c2 (limbs (rn y))) (j2 : SlW w B2 k2 (limbs y.den)) (hT : Tab w) :
    Calls Tryd.prog 9 #[.agg #[.bool (rneg x), .slice A1 (limbs (rn x)).length c1, .slice B1 (limbs x.den).length k1], .agg #[.bool (rneg y), .slice A2 (limbs (rn y)).length c2, .slice B2 (limbs y.den).length k2]] w (RX z w) := by
  subst e
  have := qAdd_any (rneg x) (rneg y) A1 B1 A2 B2 c1 k1 c2 k2 _ _ _ _ w h1 j1 h2 j2 hT
  rw [rchk_x hx, rchk_x hy, fr_x, fr_x, outX_x hz] at this
  exact this
theorem qSub_x (z : Rat) (hx : Bd 8192 x) (hy : Bd 8192 y) (hz : Bd 8192 z) (e : x - y = z) (w : World) (h1 : SlW w A1 c1 (limbs (rn x))) (j1 : SlW w B1 k1 (limbs x.den)) (h2 : SlW w A2 c2 (limbs (rn y))) (j2 : SlW w B2 k2 (limbs y.den)) (hT : Tab w) :
    Calls Tryd.prog 10 #[.agg #[.bool (rneg x), .slice A1 (limbs (rn x)).length c1, .slice B1 (limbs x.den).length k1], .agg #[.bool (rneg y), .slice A2 (limbs (rn y)).length c2, .slice B2 (limbs y.den).length k2]] w (RX z w) := by
  subst e
  have := qSub_any (rneg x) (rneg y) A1 B1 A2 B2 c1 k1 c2 k2 _ _ _ _ w h1 j1 h2 j2 hT
  rw [rchk_x hx, rchk_x hy, fr_x, fr_x, outX_x hz] at this
  exact this
theorem qMul_x (z : Rat) (hx : Bd 8192 x) (hy : Bd 8192 y) (hz : Bd 8192 z) (e : x * y = z) (w : World) (h1 : SlW w A1 c1 (limbs (rn x))) (j1 : SlW w B1 k1 (limbs x.den)) (h2 : SlW w A2 c2 (limbs (rn y))) (j2 : SlW w B2 k2 (limbs y.den)) (hT : Tab w) :
    Calls Tryd.prog 12 #[.agg #[.bool (rneg x), .slice A1 (limbs (rn x)).length c1, .slice B1 (limbs x.den).length k1], .agg #[.bool (rneg y), .slice A2 (limbs (rn y)).length c2, .slice B2 (limbs y.den).length k2]] w (RX z w) := by
  subst e
  have := qMul_any (rneg x) (rneg y) A1 B1 A2 B2 c1 k1 c2 k2 _ _ _ _ w h1 j1 h2 j2 hT
  rw [rchk_x hx, rchk_x hy, fr_x, fr_x, outX_x hz] at this
  exact this
theorem qDiv_x (z : Rat) (hx : Bd 8192 x) (hy : Bd 8192 y) (hz : Bd 8192 z) (h0 : rn y ≠ 0) (e : x / y = z) (w : World) (h1 : SlW w A1 c1 (limbs (rn x))) (j1 : SlW w B1 k1 (limbs x.den)) (h2 : SlW w A2 c2 (limbs (rn y))) (j2 : SlW w B2 k2 (limbs y.den)) (hT : Tab w) :
    Calls Tryd.prog 14 #[.agg #[.bool (rneg x), .slice A1 (limbs (rn x)).length c1, .slice B1 (limbs x.den).length k1], .agg #[.bool (rneg y), .slice A2 (limbs (rn y)).length c2, .slice B2 (limbs y.den).length k2]] w (RX z w) := by
  subst e
  have := qDiv_any (rneg x) (rneg y) A1 B1 A2 B2 c1 k1 c2 k2 _ _ _ _ w h1 j1 h2 j2 hT
  rw [rchk_x hx, rchk_x hy, fr_x, fr_x] at this
  unfold divX at this
  rw [val_limbs, if_neg h0, outX_x hz] at this
  exact this
theorem qDiv_z (hx : Bd 8192 x) (hy : Bd 8192 y) (h0 : rn y = 0) (w : World) (h1 : SlW w A1 c1 (limbs (rn x))) (j1 : SlW w B1 k1 (limbs x.den)) (h2 : SlW w A2 c2 (limbs (rn y))) (j2 : SlW w B2 k2 (limbs y.den)) (hT : Tab w) :
    Calls Tryd.prog 14 #[.agg #[.bool (rneg x), .slice A1 (limbs (rn x)).length c1, .slice B1 (limbs x.den).length k1], .agg #[.bool (rneg y), .slice A2 (limbs (rn y)).length c2, .slice B2 (limbs y.den).length k2]] w (RPE (false, 0, 0, 6) w) := by
  have := qDiv_any (rneg x) (rneg y) A1 B1 A2 B2 c1 k1 c2 k2 _ _ _ _ w h1 j1 h2 j2 hT
  rw [rchk_x hx, rchk_x hy, fr_x, fr_x] at this
  unfold divX at this
  rw [val_limbs, if_pos h0] at this
  exact this
theorem qCmp_x (z : Int) (hx : Bd 8192 x) (hy : Bd 8192 y) (e : sgz (x - y) = z) (w : World) (h1 : SlW w A1 c1 (limbs (rn x))) (j1 : SlW w B1 k1 (limbs x.den)) (h2 : SlW w A2 c2 (limbs (rn y))) (j2 : SlW w B2 k2 (limbs y.den)) (hT : Tab w) :
    Calls Tryd.prog 15 #[.agg #[.bool (rneg x), .slice A1 (limbs (rn x)).length c1, .slice B1 (limbs x.den).length k1], .agg #[.bool (rneg y), .slice A2 (limbs (rn y)).length c2, .slice B2 (limbs y.den).length k2]] w fun e w' => e = .returned (.tuple #[.int .i64 z, .int .i64 0]) ∧ Below w.heap.size w w' := by
  subst e
  have := qCmp_any (rneg x) (rneg y) A1 B1 A2 B2 c1 k1 c2 k2 _ _ _ _ w h1 j1 h2 j2 hT
  rw [rchk_x hx, rchk_x hy, fr_x, fr_x] at this
  exact this
theorem qNeg_x (z : Rat) (hx : Bd 8192 x) (e : -x = z) (w : World) (h1 : SlW w A1 c1 (limbs (rn x))) (j1 : SlW w B1 k1 (limbs x.den)) (hT : Tab w) :
    Calls Tryd.prog 19 #[.agg #[.bool (rneg x), .slice A1 (limbs (rn x)).length c1, .slice B1 (limbs x.den).length k1]] w (RX z w) := by
  subst e
  have := qNeg_any (rneg x) A1 B1 c1 k1 _ _ w h1 j1 hT
  have hl : decide (0 < (limbs (rn x)).length) = decide (rn x ≠ 0) := by
    have h0 : (limbs (rn x)).length = 0 ↔ rn x = 0 := by rw [List.length_eq_zero_iff, limbs_nil]
    by_cases h : rn x = 0
    · rw [decide_eq_false (by omega), decide_eq_false (by omega)]
    · rw [decide_eq_true (by omega), decide_eq_true (by omega)]
  have hb := hx.neg
  have e : outP (!rneg x && decide (rn x ≠ 0)) (rn x) x.den = (rneg (-x), rn (-x), (-x).den, 0) := by
    rw [← rneg_neg, ← rn_neg x, ← Rat.neg_den x]
    unfold outP
    rw [rn_neg, Rat.neg_den] at *
    exact if_pos hx
  rw [rchk_x hx, hl, val_limbs, val_limbs, e] at this
  exact this
theorem qFloor_x (z : Rat) (hx : Bd 8191 x) (e : (x.floor : Rat) = z) (w : World) (h1 : SlW w A1 c1 (limbs (rn x))) (j1 : SlW w B1 k1 (limbs x.den)) (hT : Tab w) :
    Calls Tryd.prog 16 #[.agg #[.bool (rneg x), .slice A1 (limbs (rn x)).length c1, .slice B1 (limbs x.den).length k1]] w (RX z w) := by
  subst e
  have := qFloor_any (rneg x) A1 B1 c1 k1 _ _ w h1 j1 hT
  obtain ⟨a, b, c⟩ := floor_int x
  have hb : rn (x.floor : Rat) < 2 ^ 8192 ∧ (x.floor : Rat).den < 2 ^ 8192 := hx.floor
  rw [rchk_x (hx.mono (by decide)), flq_eq, val_limbs, val_limbs, ← a, ← b, ← c] at this
  unfold outP at this
  rw [if_pos hb] at this
  exact this
theorem qRound_x (z : Rat) (hx : Bd 8189 x) (e : ((rndz x : Int) : Rat) = z) (w : World) (h1 : SlW w A1 c1 (limbs (rn x))) (j1 : SlW w B1 k1 (limbs x.den)) (hT : Tab w) :
    Calls Tryd.prog 18 #[.agg #[.bool (rneg x), .slice A1 (limbs (rn x)).length c1, .slice B1 (limbs x.den).length k1]] w (RX z w) := by
  subst e
  have := qRound_any (rneg x) A1 B1 c1 k1 _ _ w h1 j1 hT
  obtain ⟨a, b, c⟩ := rnd_parts x
  have hb : rn ((rndz x : Int) : Rat) < 2 ^ 8192 ∧ ((rndz x : Int) : Rat).den < 2 ^ 8192 := hx.rnd
  rw [rchk_x (hx.mono (by decide)), rdq_eq, val_limbs, val_limbs, ← a, ← b, ← c] at this
  unfold outP at this
  rw [if_pos hb] at this
  exact this
end
theorem qOf_x (a b : Int) (z : Rat) (hb : b ≠ 0) (hz : Bd 8192 z) (e : frac (decide (a < 0) != decide (b < 0)) a.natAbs b.natAbs = z) (h1 : -9223372036854775808 ≤ a) (h2 : a < 9223372036854775808) (h3 : -9223372036854775808 ≤ b) (h4 : b < 9223372036854775808) (w : World) (hT : Tab w) :
    Calls Tryd.prog 24 #[.int .i64 a, .int .i64 b] w (RX z w) := by
  have := qOf_any a b h1 h2 h3 h4 w hT
  unfold ofX at this
  rw [if_neg hb, e, outX_x hz] at this
  exact this
end Go.Proofs.YtjdnpkicdmapnaaDoor
namespace Go.Proofs.YtjdnpkicdmapnaaDoor
open Go.RowKit GW NL
theorem isone_any (A : Option Addr) (c : Nat) (v : Nat) (w : World) (h : SlW w A c (limbs v)) :
    Calls Tryd.prog 62 #[.slice A (limbs v).length c] w fun e w' => e = .returned (.bool (decide (v = 1))) ∧ w = w' := by
  have hm := h.len
  by_cases h1 : (limbs v).length = 1
  · obtain ⟨b, o, rfl, hcell⟩ := limW_cell h.lim (by omega)
    have e1 := hcell 0 (by omega)
    clear hcell h
    have hv : (limbs v).getD 0 0 = v := by
      have := val_limbs v
      obtain ⟨x, hx⟩ := List.length_eq_one_iff.1 h1
      rw [hx] at this ⊢
      simpa [val] using this
    rw [hv] at e1
    rw [h1]
    simp only [Nat.add_zero] at e1
    by_cases hx : v = 1
    · subst hx
      go_enter Tryd.func62, Tryd.ntmps62
      go_wp2_with fail
      go_ret
      exact ⟨rfl, rfl⟩
    · have hd : decide (v = 1) = false := decide_eq_false hx
      rw [hd]
      have hx1 : (((v : Nat) : Int) == 1) = false := by simp only [beq_eq_false_iff_ne, ne_eq]; omega
      clear hx hd hv h1 hm
      generalize ((v : Nat) : Int) = u at *
      go_enter Tryd.func62, Tryd.ntmps62
      go_wp2_with fail
      go_ret
      exact ⟨rfl, rfl⟩
  · have hv : v ≠ 1 := by
      rintro rfl
      rw [limbs_one (by decide) (by decide)] at h1
      exact h1 rfl
    rw [decide_eq_false hv]
    have hl1 : (((limbs v).length : Int) == 1) = false := by simp only [beq_eq_false_iff_ne, ne_eq]; omega
    generalize (limbs v).length = n at *
    go_enter Tryd.func62, Tryd.ntmps62
    go_wp2_with fail
    go_ret
    exact ⟨rfl, rfl⟩
theorem rOrder_any (A1 A2 : Option Addr) (c1 c2 a b : Nat) (w : World) (h1 : SlW w A1 c1 (limbs a)) (h2 : SlW w A2 c2 (limbs b)) (hl9 : (limbs a).length ≤ 1000000000) :
    Calls Tryd.prog 94 #[.slice A1 (limbs a).length c1, .slice A2 (limbs b).length c2] w fun e w' => e = .returned (.int .i64 (ord a b)) ∧ Below w.heap.size w w' := by
  refine calls_b fun g => ?_
  have C1 := Lib.hid (fun w h1 h2 => rcmp_any A1 A2 c1 c2 a b w h1 h2 hl9)
  generalize (limbs a).length = n1 at *
  generalize (limbs b).length = n2 at *
  generalize ord a b = r at *
  go_enter Tryd.func94, Tryd.ntmps94
  go_wp2_with (with_reducible refine G.any_mark _ ?_; (try generalize Array.size (World.heap (G.w _)) = bk); (try dsimp only [List.set_cons_zero, List.set_cons_succ]); (try clear g); intro g)
  refine (C1.out _ (G.sl g (by simp) h1) (G.sl g (by simp) h2)).mono ?_
  rintro e w1 ⟨rfl, hb⟩
  obtain ⟨g1, rfl⟩ := G.call_ex _ hb
  clear hb
  (try clear g)
  revert g1
  intro g
  go_wp2_with (with_reducible refine G.any_mark _ ?_; (try generalize Array.size (World.heap (G.w _)) = bk); (try dsimp only [List.set_cons_zero, List.set_cons_succ]); (try clear g); intro g)
  go_ret
  exact ⟨rfl, G.below _⟩
theorem rTimes_any (A1 A2 : Option Addr) (c1 c2 a b : Nat) (w : World) (h1 : SlW w A1 c1 (limbs a)) (h2 : SlW w A2 c2 (limbs b)) (hl1 : (limbs a).length ≤ 1000000000) (hl2 : (limbs b).length ≤ 1000000000) :
    Calls Tryd.prog 95 #[.slice A1 (limbs a).length c1, .slice A2 (limbs b).length c2] w (RNat (a * b) w) := by
  refine calls_b fun g => ?_
  have C1 := Lib.hid (fun w h1 h2 => rmul_any A1 A2 c1 c2 (limbs a) (limbs b) w h1 h2 hl1 hl2)
  rw [val_limbs, val_limbs] at C1
  generalize (limbs a).length = n1 at *
  generalize (limbs b).length = n2 at *
  generalize a * b = r at *
  go_enter Tryd.func95, Tryd.ntmps95
  go_wp2_with (with_reducible refine G.any_mark _ ?_; (try generalize Array.size (World.heap (G.w _)) = bk); (try dsimp only [List.set_cons_zero, List.set_cons_succ]); (try clear g); intro g)
  refine (C1.out _ (G.sl g (by simp) h1) (G.sl g (by simp) h2)).mono ?_
  rintro e w1 ⟨X, x, P, rfl, hx, hn⟩
  have ho := fun k o hk => Nat.le_trans (G.chg _).size (hn.new k o hk)
  obtain ⟨g1, rfl⟩ := G.new_ex _ hn
  clear hn
  (try clear g)
  revert g1
  intro g
  go_wp2_with (with_reducible refine G.any_mark _ ?_; (try generalize Array.size (World.heap (G.w _)) = bk); (try dsimp only [List.set_cons_zero, List.set_cons_succ]); (try clear g); intro g)
  go_ret
  exact ⟨X, x, P, rfl, hx, G.pass _ (by simp) ho⟩
theorem rone_any (w : World) : Calls Tryd.prog 85 #[] w (RNat 1 w) := by
  refine calls_b fun g => ?_
  go_enter Tryd.func85, Tryd.ntmps85
  go_wp2_with (with_reducible refine G.any_mark _ ?_; (try generalize Array.size (World.heap (G.w _)) = bk); (try dsimp only [List.set_cons_zero, List.set_cons_succ]); (try clear g); intro g)
  go_ret
  have h1 : limbs 1 = [1] := limbs_one (by decide) (by decide)
  refine ⟨some ⟨_, 0, none⟩, 1, _, by rw [h1]; rfl, ?_, g.give (List.mem_cons_self ..)⟩
  rw [h1]
  exact sl_blk (l := [1]) (by simp) (by decide) (by intro x hx; simp at hx; omega)
end Go.Proofs.YtjdnpkicdmapnaaDoor
namespace Go.Proofs.YtjdnpkicdmapnaaDoor
open Go.RowKit GW NL
theorem and1_u32 (x : Nat) (hx : x < 4294967296) : bits .and .u32 (x : Int) 1 = ((x % 2 : Nat) : Int) := by
  rw [K3.and32, BitVec.toNat_and, BitVec.ofInt_natCast, BitVec.toNat_ofNat, Nat.mod_eq_of_lt (by omega), show (BitVec.ofInt 32 1).toNat = 1 from rfl, Nat.and_one_is_mod]
/-- a bit of a number in its limbs -/
theorem bit_limb {l : List Nat} (ho : Ok l) (k : Nat) : l.getD (k / 32) 0 / 2 ^ (k % 32) % 2 = val l / 2 ^ k % 2 := by
  rw [getD_val l ho, pow32]
  have hk : k = 32 * (k / 32) + k % 32 := by omega
  have hr : k % 32 < 32 := Nat.mod_lt _ (by decide)
  obtain ⟨q, hq⟩ : ∃ q, k / 32 = q := ⟨_, rfl⟩
  obtain ⟨r, hr'⟩ : ∃ r, k % 32 = r := ⟨_, rfl⟩
  rw [hq, hr'] at hk ⊢
  rw [hr'] at hr
  subst hk
  rw [Nat.pow_add, ← Nat.div_div_eq_div_mul]
  generalize val l / 2 ^ (32 * q) = y
  have e : 4294967296 = 2 ^ r * 2 ^ (32 - r) := by rw [← Nat.pow_add, show r + (32 - r) = 32 by omega]
  rw [e, Nat.mod_mul_right_div_self, Nat.mod_mod_of_dvd]
  exact ⟨2 ^ (32 - r - 1), by rw [← Nat.pow_succ', show (32 - r - 1).succ = 32 - r by omega]⟩
theorem tz_bit_lt {v k : Nat} (h : v ≠ 0) (hk : k < tz v) : v / 2 ^ k % 2 = 0 := by
  obtain ⟨e, _⟩ := od_spec v h
  have : v / 2 ^ k = 2 * (2 ^ (tz v - k - 1) * od v) := by
    conv => lhs; rw [e]
    rw [show 2 ^ tz v = 2 ^ k * (2 * 2 ^ (tz v - k - 1)) by rw [← Nat.pow_succ', ← Nat.pow_add]; congr 1; omega]
    rw [Nat.mul_assoc, Nat.mul_div_cancel_left _ (Nat.two_pow_pos k), Nat.mul_assoc]
  omega
theorem tz_bit_eq {v : Nat} (h : v ≠ 0) : v / 2 ^ tz v % 2 = 1 := (od_spec v h).2
theorem tz_bits_len {l : List Nat} (ho : Ok l) (h : val l ≠ 0) : tz (val l) < 32 * l.length := by
  obtain ⟨e, _⟩ := od_spec _ h
  have h1 : 2 ^ tz (val l) ≤ val l := by
    have := Nat.mul_le_mul_left (2 ^ tz (val l)) (Nat.one_le_iff_ne_zero.2 (od_pos h))
    omega
  have h2 := val_lt ho
  rw [pow32] at h2
  exact (Nat.pow_lt_pow_iff_right (by decide : 1 < 2)).1 (Nat.lt_of_le_of_lt h1 h2)
set_option maxRecDepth 20000 in
theorem rtwos_any (A : Option Addr) (c : Nat) (l : List Nat) (w : World) (h : SlW w A c l) (h0 : val l ≠ 0) :
    Calls Tryd.prog 92 #[.slice A l.length c] w fun e w' => e = .returned (.int .i64 (tz (val l) : Nat)) ∧ w = w' := by
  have hm := h.len
  have hmm := h.max
  have hc := h.cap
  have ho := h.ok
  have ht := tz_bits_len ho h0
  obtain ⟨n, hn⟩ : ∃ n, l.length = n := ⟨_, rfl⟩
  obtain ⟨t, htt⟩ : ∃ t, tz (val l) = t := ⟨_, rfl⟩
  rw [hn] at hm hc ht ⊢
  rw [htt] at ht ⊢
  have HN := Lib.hid hn
  have H0 := Lib.hid h0
  have HT := Lib.hid htt
  clear hn h0 htt
  go_enter Tryd.func92, Tryd.ntmps92
  go_wp2_with fail
  go_loopg [3] t (fun gk i wr => ∃ k : Nat, k + gk = t ∧ i = .int .i64 k ∧ wr = w)
  case atStart => exact ⟨0, by omega, rfl, rfl⟩
  case round =>
    obtain ⟨k, hkg, rfl, rfl⟩ := hrel
    obtain ⟨b, o, rfl, hcell⟩ := limW_cell h.lim (by rw [HN.out]; omega)
    have e1 := hcell (k / 32) (by rw [HN.out]; omega)
    clear hcell
    have hbit := bit_limb ho k
    have hxl := ho.getD (k / 32)
    have hq : ((k : Int).tdiv 32) = ((k / 32 : Nat) : Int) := by rw [Int.tdiv_eq_ediv_of_nonneg (by omega)]; omega
    have hr : ((k : Int).tmod 32) = ((k % 32 : Nat) : Int) := by rw [Int.tmod_eq_emod_of_nonneg (by omega)]; omega
    have hqn : ((k / 32 : Nat) : Int) < (n : Int) := by omega
    have hr32 : k % 32 < 32 := by omega
    have hb : bits .and .u32 (((l.getD (k / 32) 0 / 2 ^ (k % 32) : Nat)) : Int) 1 = ((val l / 2 ^ k % 2 : Nat) : Int) := by
      rw [and1_u32 _ (Nat.lt_of_le_of_lt (Nat.div_le_self _ _) hxl), hbit]
    clear hbit
    generalize l.getD (k / 32) 0 = x at *
    generalize hkq : k / 32 = q at *
    generalize hkr : k % 32 = r at *
    rw [show (((x / 2 ^ r : Nat)) : Int) = (x : Int) / 2 ^ r by rw [Int.natCast_ediv, Int.natCast_pow]; rfl] at hb
    by_cases hk : gk = 0
    · subst hk
      have hkt : k = t := by omega
      have HKT := Lib.hid hkt
      rw [show val l / 2 ^ k % 2 = 1 by rw [hkt, ← HT.out]; exact tz_bit_eq H0.out] at hb
      have hbz : (bits .and .u32 ((x : Int) / 2 ^ r) 1 == 0) = false := by rw [hb]; rfl
      clear hkt hb
      go_wp2_with fail
      go_ret
      exact ⟨ret_int (by rw [HKT.out]), rfl⟩
    · have HKT := Lib.hid (show k < t by omega)
      rw [show val l / 2 ^ k % 2 = 0 from tz_bit_lt H0.out (by rw [HT.out]; exact HKT.out)] at hb
      have hbz : (bits .and .u32 ((x : Int) / 2 ^ r) 1 == 0) = true := by rw [hb]; rfl
      clear hb
      go_wp2_with fail
      go_roundg (gk - 1)
      case measure => omega
      case rel => exact ⟨k + 1, by omega, by go_num, rfl⟩
end Go.Proofs.YtjdnpkicdmapnaaDoor
namespace Go.Proofs.YtjdnpkicdmapnaaDoor
open Go.RowKit GW NL
set_option maxRecDepth 20000 in
set_option maxHeartbeats 2000000 in
theorem rodd_any (b o n cap : Nat) (cs : List Value) (l : List Nat) (w : World) (hb : w.heap[b]? = some (.cells cs.toArray 39 (0, 0))) (hs : Seg cs o l) (hn : l.length = n) (hcap : n ≤ cap) (hcap2 : cap ≤ 9223372036854775807) (hn9 : n ≤ 1000000000) (hk : Ok l) (h0 : val l ≠ 0) :
    Calls Tryd.prog 93 #[.slice (some ⟨b, o, none⟩) n cap] w (ROdd b o cap n (val l) cs.length w) := by
  refine calls_m hb fun g => ?_
  have hsl : SlW g.w (some ⟨b, o, none⟩) cap l := (hs.sl (by omega) hcap2 (by omega) hk).at (blkF_sub g.blk0)
  have C2 := Lib.hid (fun w h => rtwos_any (some ⟨b, o, none⟩) cap l w h h0)
  rw [hn] at C2
  have hq := tz_len hk h0
  have hod := od_split hk
  obtain ⟨t, ht⟩ : ∃ t, tz (val l) = t := ⟨_, rfl⟩
  rw [ht] at C2 hq hod
  obtain ⟨q, hqe⟩ : ∃ q, t / 32 = q := ⟨_, rfl⟩
  obtain ⟨r, hre⟩ : ∃ r, t % 32 = r := ⟨_, rfl⟩
  rw [hqe] at hq hod
  rw [hre] at hod
  have hr32 : r < 32 := by omega
  have hqi : Int.tdiv (t : Int) 32 = (q : Int) := by rw [Int.tdiv_eq_ediv_of_nonneg (by omega)]; omega
  have hri : Int.tmod (t : Int) 32 = (r : Int) := by rw [Int.tmod_eq_emod_of_nonneg (by omega)]; omega
  have hqi2 : (t : Int) / 32 = (q : Int) := by omega
  have hri2 : (t : Int) % 32 = (r : Int) := by omega
  have ht9 : t ≤ 32000000000 := by omega
  obtain ⟨n', hn'⟩ : ∃ n', n - q = n' := ⟨_, rfl⟩
  obtain ⟨o', ho'⟩ : ∃ o', o + q = o' := ⟨_, rfl⟩
  obtain ⟨c', hc'⟩ : ∃ c', cap - q = c' := ⟨_, rfl⟩
  have hsd := hs.drop q (by omega)
  have hok' := hk.drop q
  obtain ⟨l', hl'⟩ : ∃ l', l.drop q = l' := ⟨_, rfl⟩
  have hll : l'.length = n' := by rw [← hl', List.length_drop]; omega
  rw [hl'] at hsd hok' hod
  rw [ho'] at hsd
  have HQ := Lib.hid (show q < n by omega)
  have HO := Lib.hid ho'
  have HC := Lib.hid hc'
  have HLL := Lib.hid hll
  have HOD := Lib.hid hod
  have HSD := Lib.hid hsd
  have hqn : q < n := by omega
  have hqn2 : (q : Int) ≤ (n : Int) := by omega
  have hqc : q < cap := by omega
  have hn'9 : n' ≤ 1000000000 := by omega
  have hc'9 : n' ≤ c' := by omega
  have hc'8 : c' ≤ 9223372036854775807 := by omega
  have hr0 : ¬ ((r : Int) < 0) := by omega
  have hr1 : (0 : Int) ≤ (r : Int) := by omega
  clear hl' hll hod hsd hs hq hn hqe hre ht
  go_enter Tryd.func93, Tryd.ntmps93
  go_wp2_with (with_reducible refine G.any_mark _ ?_; (try generalize Array.size (World.heap (G.w _)) = bk); (try dsimp only [List.set_cons_zero, List.set_cons_succ]); (try clear g); intro g)
  refine (C2.out _ hsl).mono ?_
  rintro e w1 ⟨rfl, rfl⟩
  go_wp2_with (with_reducible refine G.any_mark _ ?_; (try generalize Array.size (World.heap (G.w _)) = bk); (try dsimp only [List.set_cons_zero, List.set_cons_succ]); (try clear g); intro g)
  go_loopg [4] n' (fun gk i wr => ∃ (k : Nat) (pre : List Nat) (cs' : List Value), k + gk = n' ∧ i = .int .i64 k ∧ pre.length = k ∧ Ok pre ∧ Hid (val pre = val l' / 2 ^ r % 4294967296 ^ k) ∧ Hid (Seg cs' o' (pre ++ l'.drop k)) ∧ cs'.length = cs.length ∧ ∃ g : G w [b] [(b, 39, cs')] [heapBut w b], wr = g.w)
  case atStart => exact ⟨0, [], cs, by omega, rfl, rfl, Ok.nil, Lib.hid (by simp [val, Nat.mod_one]), Lib.hid (by rw [List.drop_zero, List.nil_append]; exact HSD.out), rfl, g, rfl⟩
  case round =>
    clear g hsl
    obtain ⟨k, pre, cs', hkg, rfl, hp, hpo, HV, HS, hcl, g, rfl⟩ := hrel
    have HP := Lib.hid hp
    have HCL := Lib.hid hcl
    clear hp hcl
    have hLl : (pre ++ l'.drop k).length = n' := by rw [List.length_append, List.length_drop, HP.out, HLL.out]; omega
    have hLo : Ok (pre ++ l'.drop k) := hpo.append (hok'.drop k)
    have HSLg : Hid (∀ g : G w [b] [(b, 39, cs')] [heapBut w b], SlW g.w (some ⟨b, o', none⟩) c' (pre ++ l'.drop k)) := Lib.hid (fun g => (HS.out.sl (by omega) hc'8 (by omega) hLo).at (blkF_sub g.blk0))
    have HLn := Lib.hid hLl
    by_cases hk2 : k < n'
    · have e1 := HS.out.get k (by omega)
      rw [pre_get HP.out (Nat.le_refl _)] at e1
      have hx := hok'.getD k
      have hy := hok'.getD (k + 1)
      have dl := down_limb hok' k r hr32
      have st := Lib.hid (low_step HP.out HV.out dl)
      have e2 : k + 1 < n' → cs'[o' + (k + 1)]? = some (.int .u32 ((l'.getD (k + 1) 0 : Nat) : Int)) := fun h => by
        have := HS.out.get (k + 1) (by omega)
        rwa [pre_get HP.out (by omega)] at this
      have e3 : ¬ k + 1 < n' → l'.getD (k + 1) 0 = 0 := fun h => by
        rw [List.getD_eq_getElem?_getD, List.getElem?_eq_none (by rw [HLL.out]; omega)]; rfl
      have HS2 : ∀ z, Hid (Seg (cs'.set (o' + k) (.int .u32 ((z : Nat) : Int))) o' ((pre ++ [z]) ++ l'.drop (k + 1))) := fun z => Lib.hid (by
        rw [← pre_set HP.out (by rw [HLL.out]; exact hk2)]
        exact HS.out.set (by rw [HLn.out]; exact hk2) z)
      have hr : (l'.getD k 0 + 4294967296 * l'.getD (k + 1) 0) / 2 ^ r % 4294967296 < 4294967296 := Nat.mod_lt _ (by decide)
      clear dl hLl
      generalize l'.getD k 0 = x at *
      generalize l'.getD (k + 1) 0 = y at *
      have ht : x + 4294967296 * y < 18446744073709551616 := by omega
      have hor : bits .or .u64 (x : Int) ((y : Int) * 4294967296) = ((x + 4294967296 * y : Nat) : Int) := by
        rw [show (y : Int) * 4294967296 = ((y * 4294967296 : Nat) : Int) by omega, K3.or64_add _ _ 32 (by omega) (by omega) (by omega) (by omega)]
        omega
      have hw1 : IntKind.u64.wrap (x : Int) = (x : Int) := by rw [IntKind.wrap_u64]; omega
      have hw2 : IntKind.u64.wrap (y : Int) = (y : Int) := by rw [IntKind.wrap_u64]; omega
      have hw3 : IntKind.u64.wrap ((y : Int) * 4294967296) = (y : Int) * 4294967296 := by rw [IntKind.wrap_u64]; omega
      obtain ⟨tt, htt⟩ : ∃ t, x + 4294967296 * y = t := ⟨_, rfl⟩
      rw [htt] at hor ht st hr
      obtain ⟨z, hz⟩ : ∃ z, tt / 2 ^ r % 4294967296 = z := ⟨_, rfl⟩
      rw [hz] at st hr
      have he1 : (tt : Int) / 2 ^ r % 4294967296 = (z : Int) := by
        rw [← hz, show (tt : Int) / 2 ^ r = ((tt / 2 ^ r : Nat) : Int) by rw [Int.natCast_ediv, Int.natCast_pow]; rfl]
        omega
      have he2 : IntKind.u32.wrap ((tt : Int) / 2 ^ r) = (z : Int) := by rw [IntKind.wrap_u32]; exact he1
      have HS3 := HS2 z
      have hcl2 : Hid ((cs'.set (o' + k) (.int .u32 ((z : Nat) : Int))).length = cs.length) := Lib.hid (by rw [List.length_set]; exact HCL.out)
      clear hz ht HS2
      have hi2 : (k : Int) < (n' : Int) := by omega
      have hi3 : IntKind.i64.wrap ((k : Int) + 1) = (k : Int) + 1 := by rw [IntKind.wrap_i64]; omega
      generalize pre ++ l'.drop k = L at *
      by_cases hk3 : k + 1 < n'
      · have e4 := e2 hk3
        have hi4 : (k : Int) + 1 < (n' : Int) := by omega
        have hr9 := Lib.hid hr
        have HTT := Lib.hid htt
        clear e2 e3 hr htt
        go_wp2_with (with_reducible refine G.any_mark _ ?_; (try generalize Array.size (World.heap (G.w _)) = bk); (try dsimp only [List.set_cons_zero, List.set_cons_succ]); (try clear g); intro g)
        go_roundg (gk - 1)
        case measure => omega
        case rel => exact ⟨k + 1, pre ++ [z], _, by omega, by go_num, by rw [List.length_append, HP.out]; rfl, hpo.append (Ok.cons hr9.out Ok.nil), st, HS3, hcl2.out, g, rfl⟩
      · have hy0 := e3 hk3
        have hi4 : ¬ ((k : Int) + 1 < (n' : Int)) := by omega
        have hxt : x = tt := by omega
        have hr9 := Lib.hid hr
        clear e2 e3 hr htt hw2 hw3 hor hy0
        subst hxt
        go_wp2_with (with_reducible refine G.any_mark _ ?_; (try generalize Array.size (World.heap (G.w _)) = bk); (try dsimp only [List.set_cons_zero, List.set_cons_succ]); (try clear g); intro g)
        go_roundg (gk - 1)
        case measure => omega
        case rel => exact ⟨k + 1, pre ++ [z], _, by omega, by go_num, by rw [List.length_append, HP.out]; rfl, hpo.append (Ok.cons hr9.out Ok.nil), st, HS3, hcl2.out, g, rfl⟩
    · obtain rfl : k = n' := by omega
      have hv : val (pre ++ l'.drop k) = od (val l) := by
        rw [HOD.out, List.drop_of_length_le (by rw [HLL.out]; exact Nat.le_refl _), List.append_nil]
        exact down_end hok' (n := k) (by rw [HLL.out]; exact Nat.le_refl _) HV.out
      have hst := HS.out.trim hLo
      rw [hv] at hst
      have hst := HS.out.trim hLo
      rw [hv] at hst
      have hlo9 : Hid (q + (limbs (od (val l))).length ≤ n) := Lib.hid (by have := limbs_len_le_of_ok hLo; rw [hv, HLn.out] at this; omega)
      have HST := Lib.hid hst
      have hV0 := od_pos h0
      generalize pre ++ l'.drop k = L at *
      obtain ⟨V, hVe⟩ : ∃ V, od (val l) = V := ⟨_, rfl⟩
      rw [hVe] at hv hst hlo9 HST hV0
      have HVE := Lib.hid hVe
      have HV0 := Lib.hid hV0
      have HVL := Lib.hid hv
      clear hst hv hLl hV0 HSLg hVe
      go_wp2_with (with_reducible refine G.any_mark _ ?_; (try generalize Array.size (World.heap (G.w _)) = bk); (try dsimp only [List.set_cons_zero, List.set_cons_succ]); (try clear g); intro g)
      go_loopg [0] k (fun gk s0 wr => gk ≤ k ∧ s0 = .slice (some ⟨b, o', none⟩) gk c' ∧ Hid (val (L.take gk) = V) ∧ ∃ g : G w [b] [(b, 39, cs')] [heapBut w b], wr = g.w)
      case atStart => exact ⟨Nat.le_refl _, rfl, Lib.hid (by rw [List.take_of_length_le (by rw [HLn.out]; exact Nat.le_refl _)]; exact HVL.out), g, rfl⟩
      case round =>
        clear g
        obtain ⟨hj, rfl, HVJ, g, rfl⟩ := hrel
        have hj0 : 0 < gk := by
          rcases Nat.eq_zero_or_pos gk with h | h
          · exfalso; apply HV0.out; rw [← HVJ.out, h, List.take_zero]; rfl
          · exact h
        have e1 := HS.out.get (gk - 1) (by rw [HLn.out]; omega)
        have hji : ((gk - 1 : Nat) : Int) = (gk : Int) - 1 := by omega
        have hj1 : (0 : Int) ≤ (gk : Int) - 1 := by omega
        have hj2 : (gk : Int) - 1 < (gk : Int) := by omega
        by_cases hx : L.getD (gk - 1) 0 = 0
        · have hv' : val (L.take (gk - 1)) = V := by
            rw [← HVJ.out]
            have := val_take_getD L (gk - 1)
            rw [show gk - 1 + 1 = gk by omega, hx] at this
            omega
          have HV' := Lib.hid hv'
          have hx1 : (((L.getD (gk - 1) 0 : Nat) : Int) == 0) = true := by simp only [hx]; rfl
          clear hv' hx
          generalize ((L.getD (gk - 1) 0 : Nat) : Int) = v at *
          go_wp2_with (with_reducible refine G.any_mark _ ?_; (try generalize Array.size (World.heap (G.w _)) = bk); (try dsimp only [List.set_cons_zero, List.set_cons_succ]); (try clear g); intro g)
          go_roundg (gk - 1)
          case measure => omega
          case rel => exact ⟨by omega, rfl, HV', g, rfl⟩
        · have hlen : (limbs V).length = gk := by
            have hl : (L.take gk).length = gk := by rw [List.length_take, HLn.out]; omega
            have t : Trim (L.take gk) := by
              intro j hj
              rw [hl] at hj
              rw [getD_take (by omega), show j = gk - 1 by omega]
              exact hx
            rw [← HVJ.out, limbs_val (hLo.take gk) t, hl]
          have HLE := Lib.hid hlen
          have hx1 : (((L.getD (gk - 1) 0 : Nat) : Int) == 0) = false := by simp only [beq_eq_false_iff_ne, ne_eq]; omega
          clear hlen hx
          generalize ((L.getD (gk - 1) 0 : Nat) : Int) = v at *
          go_wp2_with (with_reducible refine G.any_mark _ ?_; (try generalize Array.size (World.heap (G.w _)) = bk); (try dsimp only [List.set_cons_zero, List.set_cons_succ]); (try clear g); intro g)
          go_ret
          exact ⟨q, cs', by rw [HVE.out, HO.out, HC.out, HLE.out]; rfl, HQ.out, by rw [HVE.out]; exact hlo9.out, g.chg, g.blk0, by rw [HVE.out, HO.out]; exact HST.out, HCL.out⟩
end Go.Proofs.YtjdnpkicdmapnaaDoor
