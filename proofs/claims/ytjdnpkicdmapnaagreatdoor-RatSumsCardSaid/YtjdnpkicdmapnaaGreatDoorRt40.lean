/- Plain facts and contracts of functions of the program, out of walks. Their conditions stand ahead of each. -/
import Derived.Test.YtjdnpkicdmapnaaGreatDoorRt25
import Derived.Test.YtjdnpkicdmapnaaGreatDoorRt39
import Derived.Below
import Derived.BigQuiet
import Derived.Deep.Draws
import Derived.Deep.LoopGhost
import Derived.Deep.QuietTactic
import Derived.Deep.RegionHeld3
import Derived.Deep.RegionLaw
import Derived.Defers
import Derived.Laws.BytesString
import Derived.Laws.Cells
import Derived.Laws.CopyOwn
import Derived.Laws.CopyRow
import Derived.Laws.NewBlocks
import Derived.Laws.OwnMore
import Derived.Laws.Pointers
import Derived.Laws.Rows
import Derived.Lib.BitFns
import Derived.Lib.Hide
import Derived.Lib.ItoaNum
import Derived.Lib.TrailingZeros
import Derived.LoopIn
import Derived.LoopNIn
import Derived.Maps.AppendAt
import Derived.OrdersIn
import Derived.OwnWalk
import Derived.OwnWalkIn
import Derived.RangeFuncBound
import Derived.RangeFuncBox
import Derived.RangeFuncCalls
import Derived.RangeFuncLeaves
import Derived.RangeFuncNested
import Derived.RowKit3
import Derived.Shelf.Abstract
import Derived.Shelf.RegionOpen
import Derived.Shelf.Spec.TrailingZeros
import Derived.StillTactics
import Derived.StillTailTactics
import Derived.TacticsInMore
import Derived.Test.YtjdnpkicdmapnaaGreatDoorProg
import Derived.WalkKit
import Derived.WalkLawsBesides
import Derived.WalkMore
import Derived.WalkSpells
set_option linter.unusedVariables false
set_option linter.unusedSimpArgs false
set_option exponentiation.threshold 10000
namespace Go.Proofs.YtjdnpkicdmapnaaGreatDoor
open Go.RowKit GW NL
theorem of_any (s : Bool) (A B : Option Addr) (c k n d : Nat) (w : World) :
    Calls Tryz.prog 59 #[.agg #[.bool s, .slice A n c, .slice B d k]] w fun e w' => e = .returned (.agg #[.bool s, .slice A n c, .slice B d k]) ∧ Below w.heap.size w w' := by
  refine calls_b fun g => ?_
  go_enter Tryz.func59, Tryz.ntmps59
  go_wp2_with (with_reducible refine G.any_mark _ ?_; (try generalize Array.size (World.heap (G.w _)) = bk); (try dsimp only [List.set_cons_zero, List.set_cons_succ]); (try clear g); intro g)
  refine bodyPost_ret (v := .agg #[.bool s, .slice A n c, .slice B d k]) (by simp [results, Tryz.results59, go_sem]) rfl ⟨rfl, G.below _⟩
theorem inverse_any (s : Bool) (A B : Option Addr) (c k n d : Nat) (w : World) :
    Calls Tryz.prog 54 #[.agg #[.bool s, .slice A n c, .slice B d k]] w fun e w' => e = .returned (.agg #[.bool s, .slice B d k, .slice A n c]) ∧ Below w.heap.size w w' := by
  refine calls_b fun g => ?_
  go_enter Tryz.func54, Tryz.ntmps54
  go_wp2_with (with_reducible refine G.any_mark _ ?_; (try generalize Array.size (World.heap (G.w _)) = bk); (try dsimp only [List.set_cons_zero, List.set_cons_succ]); (try clear g); intro g)
  refine bodyPost_ret (v := .agg #[.bool s, .slice B d k, .slice A n c]) (by simp [results, Tryz.results54, go_sem]) rfl ⟨rfl, G.below _⟩
theorem minus_any (s : Bool) (A B : Option Addr) (c k n d : Nat) (w : World) :
    Calls Tryz.prog 41 #[.agg #[.bool s, .slice A n c, .slice B d k]] w fun e w' => e = .returned (.agg #[.bool (!s && decide (0 < n)), .slice A n c, .slice B d k]) ∧ Below w.heap.size w w' := by
  refine calls_b fun g => ?_
  by_cases h : 0 < n
  · have h2 : (0 : Int) < (n : Int) := by omega
    rw [decide_eq_true h, Bool.and_true]
    cases s
    · go_enter Tryz.func41, Tryz.ntmps41
      go_wp2_with (with_reducible refine G.any_mark _ ?_; (try generalize Array.size (World.heap (G.w _)) = bk); (try dsimp only [List.set_cons_zero, List.set_cons_succ]); (try clear g); intro g)
      refine bodyPost_ret (v := .agg #[.bool true, .slice A n c, .slice B d k]) (by simp [results, Tryz.results41, go_sem]) rfl ⟨rfl, G.below _⟩
    · go_enter Tryz.func41, Tryz.ntmps41
      go_wp2_with (with_reducible refine G.any_mark _ ?_; (try generalize Array.size (World.heap (G.w _)) = bk); (try dsimp only [List.set_cons_zero, List.set_cons_succ]); (try clear g); intro g)
      refine bodyPost_ret (v := .agg #[.bool false, .slice A n c, .slice B d k]) (by simp [results, Tryz.results41, go_sem]) rfl ⟨rfl, G.below _⟩
  · obtain rfl : n = 0 := by omega
    rw [decide_eq_false h, Bool.and_false]
    cases s
    · go_enter Tryz.func41, Tryz.ntmps41
      go_wp2_with (with_reducible refine G.any_mark _ ?_; (try generalize Array.size (World.heap (G.w _)) = bk); (try dsimp only [List.set_cons_zero, List.set_cons_succ]); (try clear g); intro g)
      refine bodyPost_ret (v := .agg #[.bool false, .slice A 0 c, .slice B d k]) (by simp [results, Tryz.results41, go_sem]) rfl ⟨rfl, G.below _⟩
    · go_enter Tryz.func41, Tryz.ntmps41
      go_wp2_with (with_reducible refine G.any_mark _ ?_; (try generalize Array.size (World.heap (G.w _)) = bk); (try dsimp only [List.set_cons_zero, List.set_cons_succ]); (try clear g); intro g)
      refine bodyPost_ret (v := .agg #[.bool false, .slice A 0 c, .slice B d k]) (by simp [results, Tryz.results41, go_sem]) rfl ⟨rfl, G.below _⟩
/-- What is returned is a rational number by its parts, with an error; in new memory. -/
def RPE (r : Bool × Nat × Nat × Int) (w : World) (e : Ending) (w' : World) : Prop := ∃ A c F B k H, e = .returned (.tuple #[.agg #[.bool r.1, .slice A (limbs r.2.1).length c, .slice B (limbs r.2.2.1).length k], .int .i64 r.2.2.2]) ∧ F.Sl A c (limbs r.2.1) ∧ H.Sl B k (limbs r.2.2.1) ∧ New w w' F ∧ New w w' H
theorem limbs_256 {v : Nat} : v < 2 ^ 8192 ↔ (limbs v).length ≤ 256 := by
  rw [limbs_len, pow32]
/-- a number, or ErrOver -/
def outP (s : Bool) (n d : Nat) : Bool × Nat × Nat × Int := if n < 2 ^ 8192 ∧ d < 2 ^ 8192 then (s, n, d, 0) else (false, 0, 0, 5)
theorem rpe_err {w0 : World} {M : List Blk} {I : List Frag} (g : G w0 [] M I) (x : Int) : RPE (false, 0, 0, x) w0 (.returned (.tuple #[.agg #[.bool false, .slice none 0 0, .slice none 0 0], .int .i64 x])) g.w :=
  ⟨none, 0, _, none, 0, _, by simp only [limbs_zero]; rfl, by simp only [limbs_zero]; exact Frag.Sl.nil _ _, by simp only [limbs_zero]; exact Frag.Sl.nil _ _, g.none, g.none⟩
set_option maxRecDepth 20000 in
set_option maxHeartbeats 2000000 in
theorem result_any (s : Bool) (A B : Option Addr) (c k n d : Nat) (w : World) (h1 : SlW w A c (limbs n)) (h2 : SlW w B k (limbs d)) :
    Calls Tryz.prog 42 #[.agg #[.bool s, .slice A (limbs n).length c, .slice B (limbs d).length k]] w (RPE (outP s n d) w) := by
  refine calls_b fun g => ?_
  unfold outP
  by_cases hn : n < 2 ^ 8192
  · have hn2 := limbs_256.1 hn
    by_cases hd : d < 2 ^ 8192
    · rw [if_pos ⟨hn, hd⟩]
      have hd2 := limbs_256.1 hd
      have C1 := Lib.hid (fun w h => clone_any A c (limbs n) w h (by omega))
      have C2 := Lib.hid (fun w h => clone_any B k (limbs d) w h (by omega))
      clear hn hd
      have H1 := Lib.hid h1
      have H2 := Lib.hid h2
      generalize hln : (limbs n).length = ln at *
      generalize hld : (limbs d).length = ld at *
      have HLN := Lib.hid hln
      have HLD := Lib.hid hld
      clear hln hld
      unfold RLim at C1 C2
      rw [HLN.out] at C1
      rw [HLD.out] at C2
      cases s
      · go_enter Tryz.func42, Tryz.ntmps42
        go_wp2_with (with_reducible refine G.any_mark _ ?_; (try generalize Array.size (World.heap (G.w _)) = bk); (try dsimp only [List.set_cons_zero, List.set_cons_succ]); (try clear g); intro g)
        go_region_held3 (G.heldN g [false, true]) (simp [G.heldN, HeldN, go_sem]) (first
          | (go_at_call 83; (with_reducible refine (C1.out _ ?_).mono ?_); (· exact G.sl _ (by simp) H1.out); rintro e w1 ⟨X1, x1, P1, rfl, hx1, hn1⟩; have ho1 := fun k o hk => Nat.le_trans (G.chg _).size (hn1.new k o hk); obtain ⟨g1, rfl⟩ := G.new_ex _ hn1; clear hn1; (try clear g); revert g1; intro g)
          | (go_at_call 83; (with_reducible refine (C2.out _ ?_).mono ?_); (· exact G.sl _ (by simp) H2.out); rintro e w1 ⟨X2, x2, P2, rfl, hx2, hn2⟩; have ho2 := fun k o hk => Nat.le_trans (G.chg _).size (hn2.new k o hk); obtain ⟨g1, rfl⟩ := G.new_ex _ hn2; clear hn2; (try clear g); revert g1; intro g))
        all_goals go_wp2_with (with_reducible refine G.any_mark _ ?_; (try generalize Array.size (World.heap (G.w _)) = bk); (try dsimp only [List.set_cons_zero, List.set_cons_succ]); (try clear g); intro g)
        all_goals refine bodyPost_ret (v := .tuple #[.agg #[.bool false, .slice X1 ln x1, .slice X2 ld x2], .int .i64 0]) (by simp [results, Tryz.results42, go_sem]) rfl ?_
        all_goals exact ⟨X1, x1, P1, X2, x2, P2, by rw [HLN.out, HLD.out], hx1, hx2, G.pass _ (by simp) ho1, G.pass _ (by simp) ho2⟩
      · go_enter Tryz.func42, Tryz.ntmps42
        go_wp2_with (with_reducible refine G.any_mark _ ?_; (try generalize Array.size (World.heap (G.w _)) = bk); (try dsimp only [List.set_cons_zero, List.set_cons_succ]); (try clear g); intro g)
        go_region_held3 (G.heldN g [false, true]) (simp [G.heldN, HeldN, go_sem]) (first
          | (go_at_call 83; (with_reducible refine (C1.out _ ?_).mono ?_); (· exact G.sl _ (by simp) H1.out); rintro e w1 ⟨X1, x1, P1, rfl, hx1, hn1⟩; have ho1 := fun k o hk => Nat.le_trans (G.chg _).size (hn1.new k o hk); obtain ⟨g1, rfl⟩ := G.new_ex _ hn1; clear hn1; (try clear g); revert g1; intro g)
          | (go_at_call 83; (with_reducible refine (C2.out _ ?_).mono ?_); (· exact G.sl _ (by simp) H2.out); rintro e w1 ⟨X2, x2, P2, rfl, hx2, hn2⟩; have ho2 := fun k o hk => Nat.le_trans (G.chg _).size (hn2.new k o hk); obtain ⟨g1, rfl⟩ := G.new_ex _ hn2; clear hn2; (try clear g); revert g1; intro g))
        all_goals go_wp2_with (with_reducible refine G.any_mark _ ?_; (try generalize Array.size (World.heap (G.w _)) = bk); (try dsimp only [List.set_cons_zero, List.set_cons_succ]); (try clear g); intro g)
        all_goals refine bodyPost_ret (v := .tuple #[.agg #[.bool true, .slice X1 ln x1, .slice X2 ld x2], .int .i64 0]) (by simp [results, Tryz.results42, go_sem]) rfl ?_
        all_goals exact ⟨X1, x1, P1, X2, x2, P2, by rw [HLN.out, HLD.out], hx1, hx2, G.pass _ (by simp) ho1, G.pass _ (by simp) ho2⟩
    · rw [if_neg (fun h => hd h.2)]
      have hn3 : ¬ (256 : Int) < ((limbs n).length : Int) := by omega
      have hd3 : (256 : Int) < ((limbs d).length : Int) := by
        rcases Nat.lt_or_ge 256 (limbs d).length with h | h
        · omega
        · exact absurd (limbs_256.2 h) hd
      clear hn hd hn2 h1 h2
      generalize (limbs n).length = ln at *
      generalize (limbs d).length = ld at *
      go_enter Tryz.func42, Tryz.ntmps42
      go_wp2_with (with_reducible refine G.any_mark _ ?_; (try generalize Array.size (World.heap (G.w _)) = bk); (try dsimp only [List.set_cons_zero, List.set_cons_succ]); (try clear g); intro g)
      refine bodyPost_ret (v := .tuple #[.agg #[.bool false, .slice none 0 0, .slice none 0 0], .int .i64 5]) (by simp [results, Tryz.results42, go_sem]) rfl (rpe_err _ 5)
  · rw [if_neg (fun h => hn h.1)]
    have hn3 : (256 : Int) < ((limbs n).length : Int) := by
      rcases Nat.lt_or_ge 256 (limbs n).length with h | h
      · omega
      · exact absurd (limbs_256.2 h) hn
    clear hn h1 h2
    generalize (limbs n).length = ln at *
    generalize (limbs d).length = ld at *
    go_enter Tryz.func42, Tryz.ntmps42
    go_wp2_with (with_reducible refine G.any_mark _ ?_; (try generalize Array.size (World.heap (G.w _)) = bk); (try dsimp only [List.set_cons_zero, List.set_cons_succ]); (try clear g); intro g)
    refine bodyPost_ret (v := .tuple #[.agg #[.bool false, .slice none 0 0, .slice none 0 0], .int .i64 5]) (by simp [results, Tryz.results42, go_sem]) rfl (rpe_err _ 5)
end Go.Proofs.YtjdnpkicdmapnaaGreatDoor
namespace Go.Proofs.YtjdnpkicdmapnaaGreatDoor
open Go.RowKit GW NL
/-- the error of a rational number's parts -/
def rchk (s : Bool) (ln ld : List Nat) : Int := if chk ln ≠ 0 then chk ln else if chk ld ≠ 0 then chk ld else if val ld = 0 then 6 else if (s = true ∧ val ln = 0) ∨ Nat.gcd (val ln) (val ld) ≠ 1 then 3 else 0
theorem chk_pos (l : List Nat) : chk l = 0 ∨ chk l = 3 ∨ chk l = 4 := by unfold chk; split; simp; split <;> simp
set_option maxRecDepth 20000 in
set_option maxHeartbeats 4000000 in
theorem rcheck (s : Bool) (A B : Option Addr) (c k : Nat) (ln ld : List Nat) (w : World) (h1 : SlW w A c ln) (h2 : SlW w B k ld) (hT : Tab w) :
    Calls Tryz.prog 22 #[.agg #[.bool s, .slice A ln.length c, .slice B ld.length k]] w fun e w' => e = .returned (.int .i64 (rchk s ln ld)) ∧ Below w.heap.size w w' := by
  refine calls_b fun g => ?_
  have CK1 := Lib.hid (fun w h => check_any A c ln w h)
  have CK2 := Lib.hid (fun w h => check_any B k ld w h)
  have HT := Lib.hid hT
  have P1 := chk_pos ln
  have P2 := chk_pos ld
  have K1 := Lib.hid (fun h => chk_ok h1.ok h)
  have K2 := Lib.hid (fun h => chk_ok h2.ok h)
  obtain ⟨x1, hx1⟩ : ∃ x, chk ln = x := ⟨_, rfl⟩
  obtain ⟨x2, hx2⟩ : ∃ x, chk ld = x := ⟨_, rfl⟩
  rw [hx1] at CK1 P1 K1
  rw [hx2] at CK2 P2 K2
  have HX1 := Lib.hid hx1
  have HX2 := Lib.hid hx2
  have H1 := Lib.hid h1
  have H2 := Lib.hid h2
  clear hT hx1 hx2 h1 h2
  obtain ⟨n1, hn1⟩ : ∃ n, ln.length = n := ⟨_, rfl⟩
  obtain ⟨n2, hn2⟩ : ∃ n, ld.length = n := ⟨_, rfl⟩
  rw [hn1] at CK1 ⊢
  rw [hn2] at CK2 ⊢
  have HN1 := Lib.hid hn1
  have HN2 := Lib.hid hn2
  clear hn1 hn2
  go_enter Tryz.func22, Tryz.ntmps22
  go_wp2_with (with_reducible refine G.any_mark _ ?_; (try generalize Array.size (World.heap (G.w _)) = bk); (try dsimp only [List.set_cons_zero, List.set_cons_succ]); (try clear g); intro g)
  obtain ⟨lb, rfl⟩ : ∃ lb, lb = bk := ⟨_, rfl⟩
  obtain ⟨xb, rfl⟩ : ∃ xb, xb = bk := ⟨_, rfl⟩
  go_loopg [13] 2 (fun gk s13 wr => ((gk = 2 ∧ s13 = .int .i64 0) ∨ (gk = 1 ∧ s13 = .int .i64 1 ∧ x1 = 0) ∨ (gk = 0 ∧ s13 = .int .i64 2 ∧ x1 = 0 ∧ x2 = 0)) ∧ ∃ g : G w [] [(lb, 23, [.slice A n1 c, .slice B n2 k]), (xb, 25, [.bool s, .slice A n1 c, .slice B n2 k])] [heapOf w], wr = g.w)
  case atStart => exact ⟨.inl ⟨rfl, rfl⟩, g, rfl⟩
  case round =>
    clear g
    obtain ⟨hst, g, rfl⟩ := hrel
    rcases hst with ⟨rfl, rfl⟩ | ⟨rfl, rfl, rfl⟩ | ⟨rfl, rfl, rfl, rfl⟩
    · go_wp2_with (with_reducible refine G.any_mark _ ?_; (try generalize Array.size (World.heap (G.w _)) = bk); (try dsimp only [List.set_cons_zero, List.set_cons_succ]); (try clear g); intro g)
      refine (CK1.out _ (G.sl g (by simp) H1.out)).mono ?_
      rintro e w1 ⟨rfl, hb⟩
      obtain ⟨g1, rfl⟩ := G.call_ex _ hb
      clear hb
      (try clear g)
      revert g1
      intro g
      rcases P1 with rfl | rfl | rfl
      · go_wp2_with (with_reducible refine G.any_mark _ ?_; (try generalize Array.size (World.heap (G.w _)) = bk); (try dsimp only [List.set_cons_zero, List.set_cons_succ]); (try clear g); intro g)
        go_roundg 1
        case measure => omega
        case rel => exact ⟨by simp, g, rfl⟩
      all_goals go_wp2_with (with_reducible refine G.any_mark _ ?_; (try generalize Array.size (World.heap (G.w _)) = bk); (try dsimp only [List.set_cons_zero, List.set_cons_succ]); (try clear g); intro g)
      all_goals go_ret
      all_goals exact ⟨by unfold rchk; rw [HX1.out, if_pos (by decide)]; rfl, g.below⟩
    · go_wp2_with (with_reducible refine G.any_mark _ ?_; (try generalize Array.size (World.heap (G.w _)) = bk); (try dsimp only [List.set_cons_zero, List.set_cons_succ]); (try clear g); intro g)
      refine (CK2.out _ (G.sl g (by simp) H2.out)).mono ?_
      rintro e w1 ⟨rfl, hb⟩
      obtain ⟨g1, rfl⟩ := G.call_ex _ hb
      clear hb
      (try clear g)
      revert g1
      intro g
      rcases P2 with rfl | rfl | rfl
      · go_wp2_with (with_reducible refine G.any_mark _ ?_; (try generalize Array.size (World.heap (G.w _)) = bk); (try dsimp only [List.set_cons_zero, List.set_cons_succ]); (try clear g); intro g)
        go_roundg 0
        case measure => omega
        case rel => exact ⟨by simp, g, rfl⟩
      all_goals go_wp2_with (with_reducible refine G.any_mark _ ?_; (try generalize Array.size (World.heap (G.w _)) = bk); (try dsimp only [List.set_cons_zero, List.set_cons_succ]); (try clear g); intro g)
      all_goals go_ret
      all_goals exact ⟨by unfold rchk; rw [HX1.out, HX2.out, if_neg (by decide), if_pos (by decide)]; rfl, g.below⟩
    · obtain ⟨e1, b1, b2⟩ := K1.out rfl
      obtain ⟨e2, b3, b4⟩ := K2.out rfl
      have hrc : rchk s ln ld = if val ld = 0 then 6 else if (s = true ∧ val ln = 0) ∨ Nat.gcd (val ln) (val ld) ≠ 1 then 3 else 0 := by
        unfold rchk
        rw [HX1.out, HX2.out, if_neg (by decide), if_neg (by decide)]
      obtain ⟨v1, hv1⟩ : ∃ v, val ln = v := ⟨_, rfl⟩
      obtain ⟨v2, hv2⟩ : ∃ v, val ld = v := ⟨_, rfl⟩
      rw [hv1, hv2] at hrc
      rw [hv1] at e1
      rw [hv2] at e2
      have s1 := H1.out
      have s2 := H2.out
      rw [e1] at s1
      rw [e2] at s2
      have hl1 : (limbs v1).length = n1 := by rw [← e1]; exact HN1.out
      have hl2 : (limbs v2).length = n2 := by rw [← e2]; exact HN2.out
      rw [e1] at b2
      rw [e2] at b4
      have HRC := Lib.hid hrc
      have E1 := Lib.hid e1
      have E2 := Lib.hid e2
      have S1 := Lib.hid s1
      have S2 := Lib.hid s2
      have CO := Lib.hid (fun w => of_any s A B c k n1 n2 w)
      have CG := Lib.hid (fun F w hF h1 h2 hT => (by
        have := lgcd_any F A B c k v1 v2 w hF h1 h2 hT (by omega) (by omega)
        rw [hl1, hl2] at this
        exact this : Calls Tryz.prog 60 #[.slice A n1 c, .slice B n2 k] w (RAli F (Nat.gcd v1 v2) w)))
      have CU := Lib.hid (fun X x w h => lunit_any X x (Nat.gcd v1 v2) w h)
      have z1 : (v1 = 0 ∧ n1 = 0) ∨ (v1 ≠ 0 ∧ 0 < n1) := by
        rw [← hl1]
        by_cases h : v1 = 0
        · left; subst h; exact ⟨rfl, by rw [limbs_zero]; rfl⟩
        · right; exact ⟨h, (limbs_ne h).2⟩
      have z2 : (v2 = 0 ∧ n2 = 0) ∨ (v2 ≠ 0 ∧ 0 < n2) := by
        rw [← hl2]
        by_cases h : v2 = 0
        · left; subst h; exact ⟨rfl, by rw [limbs_zero]; rfl⟩
        · right; exact ⟨h, (limbs_ne h).2⟩
      clear hrc e1 e2 s1 s2 hv1 hv2 b1 b2 b3 b4 hl1 hl2 P1 P2 K1 K2 CK1 CK2
      go_wp2_with (with_reducible refine G.any_mark _ ?_; (try generalize Array.size (World.heap (G.w _)) = bk); (try dsimp only [List.set_cons_zero, List.set_cons_succ]); (try clear g); intro g)
      refine (CO.out _).mono ?_
      rintro e w1 ⟨rfl, hb⟩
      obtain ⟨g1, rfl⟩ := G.call_ex _ hb
      clear hb
      (try clear g)
      revert g1
      intro g
      rcases z2 with ⟨k1, k2⟩ | ⟨k1, k2⟩
      · have hfin := HRC.out
        rw [if_pos k1] at hfin
        have HF := Lib.hid hfin
        clear hfin
        subst k2
        go_wp2_with (with_reducible refine G.any_mark _ ?_; (try generalize Array.size (World.heap (G.w _)) = bk); (try dsimp only [List.set_cons_zero, List.set_cons_succ]); (try clear g); intro g)
        go_ret
        exact ⟨by rw [HF.out]; rfl, G.below _⟩
      · have k3 : ((n2 : Int) == 0) = false := by rw [beq_eq_false_iff_ne]; omega
        have hfin := HRC.out
        rw [if_neg k1] at hfin
        have HF := Lib.hid hfin
        clear hfin
        cases s
        · go_wp2_with (with_reducible refine G.any_mark _ ?_; (try generalize Array.size (World.heap (G.w _)) = bk); (try dsimp only [List.set_cons_zero, List.set_cons_succ]); (try clear g); intro g)
          (try (refine cmark _ ?_; (try dsimp only [List.set_cons_zero, List.set_cons_succ]); (try clear g); intro g))
          refine (CG.out (g.fr (heapOf w)) _ (g.fr_sub (by simp)) (g.fr_sl (by simp) (Frag.over_self _ _) S1.out) (g.fr_sl (by simp) (Frag.over_self _ _) S2.out) (G.tab g HT.out)).mono ?_
          rintro e w1 ⟨Ag, cg, Fg, rfl, hsg, hng⟩
          obtain ⟨g1, rfl, hov⟩ := g.newor_ex hng
          clear hng
          (try clear g)
          revert g1
          intro g
          go_wp2_with (with_reducible refine G.any_mark _ ?_; (try generalize Array.size (World.heap (G.w _)) = bk); (try dsimp only [List.set_cons_zero, List.set_cons_succ]); (try clear g); intro g)
          refine (CU.out Ag cg _ (G.sl g (by simp) hsg)).mono ?_
          rintro e w1 ⟨rfl, rfl⟩
          by_cases hq : Nat.gcd v1 v2 = 1
          · rw [decide_eq_true hq]
            have HQ := Lib.hid hq
            clear hq
            go_wp2_with (with_reducible refine G.any_mark _ ?_; (try generalize Array.size (World.heap (G.w _)) = bk); (try dsimp only [List.set_cons_zero, List.set_cons_succ]); (try clear g); intro g)
            go_ret
            exact ⟨by rw [HF.out, if_neg (fun h => h.elim (fun h => by cases h.1) (fun h => h HQ.out))]; rfl, G.below _⟩
          · rw [decide_eq_false hq]
            have HQ := Lib.hid hq
            clear hq
            go_wp2_with (with_reducible refine G.any_mark _ ?_; (try generalize Array.size (World.heap (G.w _)) = bk); (try dsimp only [List.set_cons_zero, List.set_cons_succ]); (try clear g); intro g)
            go_ret
            exact ⟨by rw [HF.out, if_pos (.inr HQ.out)]; rfl, G.below _⟩
        · rcases z1 with ⟨k4, k5⟩ | ⟨k4, k5⟩
          · have HK4 := Lib.hid k4
            clear k4
            subst k5
            go_wp2_with (with_reducible refine G.any_mark _ ?_; (try generalize Array.size (World.heap (G.w _)) = bk); (try dsimp only [List.set_cons_zero, List.set_cons_succ]); (try clear g); intro g)
            go_ret
            exact ⟨by rw [HF.out, if_pos (.inl ⟨by simp, HK4.out⟩)]; rfl, G.below _⟩
          · have k6 : ((n1 : Int) == 0) = false := by rw [beq_eq_false_iff_ne]; omega
            have HK4 := Lib.hid k4
            clear k4
            go_wp2_with (with_reducible refine G.any_mark _ ?_; (try generalize Array.size (World.heap (G.w _)) = bk); (try dsimp only [List.set_cons_zero, List.set_cons_succ]); (try clear g); intro g)
            (try (refine cmark _ ?_; (try dsimp only [List.set_cons_zero, List.set_cons_succ]); (try clear g); intro g))
            refine (CG.out (g.fr (heapOf w)) _ (g.fr_sub (by simp)) (g.fr_sl (by simp) (Frag.over_self _ _) S1.out) (g.fr_sl (by simp) (Frag.over_self _ _) S2.out) (G.tab g HT.out)).mono ?_
            rintro e w1 ⟨Ag, cg, Fg, rfl, hsg, hng⟩
            obtain ⟨g1, rfl, hov⟩ := g.newor_ex hng
            clear hng
            (try clear g)
            revert g1
            intro g
            go_wp2_with (with_reducible refine G.any_mark _ ?_; (try generalize Array.size (World.heap (G.w _)) = bk); (try dsimp only [List.set_cons_zero, List.set_cons_succ]); (try clear g); intro g)
            refine (CU.out Ag cg _ (G.sl g (by simp) hsg)).mono ?_
            rintro e w1 ⟨rfl, rfl⟩
            by_cases hq : Nat.gcd v1 v2 = 1
            · rw [decide_eq_true hq]
              have HQ := Lib.hid hq
              clear hq
              go_wp2_with (with_reducible refine G.any_mark _ ?_; (try generalize Array.size (World.heap (G.w _)) = bk); (try dsimp only [List.set_cons_zero, List.set_cons_succ]); (try clear g); intro g)
              go_ret
              exact ⟨by rw [HF.out, if_neg (fun h => h.elim (fun h => HK4.out h.2) (fun h => h HQ.out))]; rfl, G.below _⟩
            · rw [decide_eq_false hq]
              have HQ := Lib.hid hq
              clear hq
              go_wp2_with (with_reducible refine G.any_mark _ ?_; (try generalize Array.size (World.heap (G.w _)) = bk); (try dsimp only [List.set_cons_zero, List.set_cons_succ]); (try clear g); intro g)
              go_ret
              exact ⟨by rw [HF.out, if_pos (.inr HQ.out)]; rfl, G.below _⟩
end Go.Proofs.YtjdnpkicdmapnaaGreatDoor
namespace Go.Proofs.YtjdnpkicdmapnaaGreatDoor
open Go.RowKit GW NL
theorem G.old {w0 : World} {X : List Nat} {M : List Blk} {I : List Frag} (g : G w0 X M I) (hI : heapOf w0 ∈ I) {b o : Nat} {v : Value} (h : w0.cell? ⟨b, o, none⟩ = some v) : g.w.cell? ⟨b, o, none⟩ = some v := by
  refine g.frag_cell hI ?_
  unfold World.cell? at h
  unfold Frag.cell
  exact h
/-- the parts of a rational number, or ErrOver -/
def outX (x : Rat) : Bool × Nat × Nat × Int := outP (rneg x) (rn x) x.den
/-- from cell o on a fraction lies in block b -/
structure FrAt (w : World) (b o : Nat) (s : Bool) (A : Option Addr) (n c : Nat) (B : Option Addr) (d k : Nat) : Prop where
  c0 : w.cell? ⟨b, o, none⟩ = some (.bool s)
  c1 : w.cell? ⟨b, o + 1, none⟩ = some (.slice A n c)
  c2 : w.cell? ⟨b, o + 2, none⟩ = some (.slice B d k)
theorem frac_minus (s : Bool) (n d : Nat) : frac (!s && decide (0 < (limbs n).length)) n d = -frac s n d := by
  by_cases h : n = 0
  · subst h; rw [frac_zero, frac_zero]; rfl
  · rw [decide_eq_true (limbs_ne h).2, Bool.and_true, frac_neg]
set_option maxRecDepth 20000 in
set_option maxHeartbeats 4000000 in
theorem add1_any (b cap : Nat) (s1 s2 : Bool) (A1 B1 A2 B2 : Option Addr) (c1 k1 c2 k2 n1 d1 n2 d2 : Nat) (w : World) (f1 : FrAt w b 0 s1 A1 (limbs n1).length c1 B1 (limbs d1).length k1) (f2 : FrAt w b 3 s2 A2 (limbs n2).length c2 B2 (limbs d2).length k2) (hcap : 2 ≤ cap) (h1 : SlW w A1 c1 (limbs n1)) (j1 : SlW w B1 k1 (limbs d1)) (h2 : SlW w A2 c2 (limbs n2)) (j2 : SlW w B2 k2 (limbs d2)) (hT : Tab w)
    (l1 : (limbs n1).length ≤ 10000000) (m1 : (limbs d1).length ≤ 10000000) (l2 : (limbs n2).length ≤ 10000000) (m2 : (limbs d2).length ≤ 10000000) (z1 : d1 ≠ 0) (z2 : d2 ≠ 0) :
    Calls Tryz.prog 44 #[.slice (some ⟨b, 0, none⟩) 2 cap] w (RPE (outX (frac s1 n1 d1 + frac s2 n2 d2)) w) := by
  refine calls_b fun g => ?_
  have C1 := Lib.hid (fun w a b c d t => fplus_any s1 s2 A1 B1 A2 B2 c1 k1 c2 k2 n1 d1 n2 d2 w a b c d t l1 m1 l2 m2 z1 z2)
  have HT := Lib.hid hT
  have E0 := Lib.hid f1.c0
  have E1 := Lib.hid f1.c1
  have E2 := Lib.hid f1.c2
  have E3 := Lib.hid f2.c0
  have E4 := Lib.hid f2.c1
  have E5 := Lib.hid f2.c2
  clear hT f1 f2 z1 z2
  generalize (limbs n1).length = ln1 at *
  generalize (limbs d1).length = ld1 at *
  generalize (limbs n2).length = ln2 at *
  generalize (limbs d2).length = ld2 at *
  generalize frac s1 n1 d1 + frac s2 n2 d2 = x at *
  have CR := Lib.hid (fun A B c k w h1 h2 => result_any (rneg x) A B c k (rn x) x.den w h1 h2)
  unfold outX
  generalize outP (rneg x) (rn x) x.den = r at *
  obtain ⟨rs, rn', rd', re⟩ := r
  unfold RPE at CR ⊢
  dsimp only at CR ⊢
  have hcap2 : (2 : Int) ≤ (cap : Int) := by omega

  go_enter Tryz.func44, Tryz.ntmps44
  go_wp2_with (with_reducible refine G.any_mark _ ?_; (try generalize Array.size (World.heap (G.w _)) = bk); (try dsimp only [List.set_cons_zero, List.set_cons_succ]); (try clear g); intro g)
  go_region_held3 (fun w' => w'.cell? ⟨b, 0, none⟩ = some (.bool s1) ∧ w'.cell? ⟨b, 1, none⟩ = some (.slice A1 ln1 c1) ∧ w'.cell? ⟨b, 2, none⟩ = some (.slice B1 ld1 k1) ∧ w'.cell? ⟨b, 3, none⟩ = some (.bool s2) ∧ w'.cell? ⟨b, 4, none⟩ = some (.slice A2 ln2 c2) ∧ w'.cell? ⟨b, 5, none⟩ = some (.slice B2 ld2 k2)) (((try simp only [G.drew_eq, G.drewN_eq]); exact ⟨G.old _ (by simp) E0.out, G.old _ (by simp) E1.out, G.old _ (by simp) E2.out, G.old _ (by simp) E3.out, G.old _ (by simp) E4.out, G.old _ (by simp) E5.out⟩)) (first
    | (go_at_call 45; (with_reducible refine (C1.out _ ?_ ?_ ?_ ?_ ?_).mono ?_); (· exact G.sl _ (by simp) h1); (· exact G.sl _ (by simp) j1); (· exact G.sl _ (by simp) h2); (· exact G.sl _ (by simp) j2);  (· exact G.tab _ HT.out); rintro e w1 ⟨Y1, y1, Q1, Y2, y2, Q2, rfl, hy1, hy2, hn1, hn2⟩; obtain ⟨g1, rfl⟩ := G.new2_ex _ hn1 hn2; clear hn1 hn2; (try clear g); revert g1; intro g)
    | (go_at_call 42; (with_reducible refine (CR.out _ _ _ _ _ ?_ ?_).mono ?_); (· exact G.sl _ (by simp) hy1); (· exact G.sl _ (by simp) hy2); rintro e w1 ⟨Z1, z1, R1, Z2, z2, R2, rfl, hz1, hz2, hn1, hn2⟩; have ho1 := fun k o hk => Nat.le_trans (G.chg _).size (hn1.new k o hk); have ho2 := fun k o hk => Nat.le_trans (G.chg _).size (hn2.new k o hk); obtain ⟨g1, rfl⟩ := G.new2_ex _ hn1 hn2; clear hn1 hn2; (try clear g); revert g1; intro g))
  all_goals go_wp2_with (with_reducible refine G.any_mark _ ?_; (try generalize Array.size (World.heap (G.w _)) = bk); (try dsimp only [List.set_cons_zero, List.set_cons_succ]); (try clear g); intro g)
  all_goals refine bodyPost_ret (v := .tuple #[.agg #[.bool rs, .slice Z1 (limbs rn').length z1, .slice Z2 (limbs rd').length z2], .int .i64 re]) (by simp [results, Tryz.results44, go_sem]) rfl ?_
  all_goals exact ⟨Z1, z1, R1, Z2, z2, R2, rfl, hz1, hz2, G.pass _ (by simp) ho1, G.pass _ (by simp) ho2⟩
set_option maxRecDepth 20000 in
set_option maxHeartbeats 4000000 in
theorem mul1_any (b cap : Nat) (s1 s2 : Bool) (A1 B1 A2 B2 : Option Addr) (c1 k1 c2 k2 n1 d1 n2 d2 : Nat) (w : World) (f1 : FrAt w b 0 s1 A1 (limbs n1).length c1 B1 (limbs d1).length k1) (f2 : FrAt w b 3 s2 A2 (limbs n2).length c2 B2 (limbs d2).length k2) (hcap : 2 ≤ cap) (h1 : SlW w A1 c1 (limbs n1)) (j1 : SlW w B1 k1 (limbs d1)) (h2 : SlW w A2 c2 (limbs n2)) (j2 : SlW w B2 k2 (limbs d2)) (hT : Tab w)
    (l1 : (limbs n1).length ≤ 10000000) (m1 : (limbs d1).length ≤ 10000000) (l2 : (limbs n2).length ≤ 10000000) (m2 : (limbs d2).length ≤ 10000000) (z1 : d1 ≠ 0) (z2 : d2 ≠ 0) :
    Calls Tryz.prog 50 #[.slice (some ⟨b, 0, none⟩) 2 cap] w (RPE (outX (frac s1 n1 d1 * frac s2 n2 d2)) w) := by
  refine calls_b fun g => ?_
  have C1 := Lib.hid (fun w a b c d t => ftimes_any s1 s2 A1 B1 A2 B2 c1 k1 c2 k2 n1 d1 n2 d2 w a b c d t l1 m1 l2 m2 z1 z2)
  have HT := Lib.hid hT
  have E0 := Lib.hid f1.c0
  have E1 := Lib.hid f1.c1
  have E2 := Lib.hid f1.c2
  have E3 := Lib.hid f2.c0
  have E4 := Lib.hid f2.c1
  have E5 := Lib.hid f2.c2
  clear hT f1 f2 z1 z2
  generalize (limbs n1).length = ln1 at *
  generalize (limbs d1).length = ld1 at *
  generalize (limbs n2).length = ln2 at *
  generalize (limbs d2).length = ld2 at *
  generalize frac s1 n1 d1 * frac s2 n2 d2 = x at *
  have CR := Lib.hid (fun A B c k w h1 h2 => result_any (rneg x) A B c k (rn x) x.den w h1 h2)
  unfold outX
  generalize outP (rneg x) (rn x) x.den = r at *
  obtain ⟨rs, rn', rd', re⟩ := r
  unfold RPE at CR ⊢
  dsimp only at CR ⊢
  have hcap2 : (2 : Int) ≤ (cap : Int) := by omega

  go_enter Tryz.func50, Tryz.ntmps50
  go_wp2_with (with_reducible refine G.any_mark _ ?_; (try generalize Array.size (World.heap (G.w _)) = bk); (try dsimp only [List.set_cons_zero, List.set_cons_succ]); (try clear g); intro g)
  go_region_held3 (fun w' => w'.cell? ⟨b, 0, none⟩ = some (.bool s1) ∧ w'.cell? ⟨b, 1, none⟩ = some (.slice A1 ln1 c1) ∧ w'.cell? ⟨b, 2, none⟩ = some (.slice B1 ld1 k1) ∧ w'.cell? ⟨b, 3, none⟩ = some (.bool s2) ∧ w'.cell? ⟨b, 4, none⟩ = some (.slice A2 ln2 c2) ∧ w'.cell? ⟨b, 5, none⟩ = some (.slice B2 ld2 k2)) (((try simp only [G.drew_eq, G.drewN_eq]); exact ⟨G.old _ (by simp) E0.out, G.old _ (by simp) E1.out, G.old _ (by simp) E2.out, G.old _ (by simp) E3.out, G.old _ (by simp) E4.out, G.old _ (by simp) E5.out⟩)) (first
    | (go_at_call 51; (with_reducible refine (C1.out _ ?_ ?_ ?_ ?_ ?_).mono ?_); (· exact G.sl _ (by simp) h1); (· exact G.sl _ (by simp) j1); (· exact G.sl _ (by simp) h2); (· exact G.sl _ (by simp) j2);  (· exact G.tab _ HT.out); rintro e w1 ⟨Y1, y1, Q1, Y2, y2, Q2, rfl, hy1, hy2, hn1, hn2⟩; obtain ⟨g1, rfl⟩ := G.new2_ex _ hn1 hn2; clear hn1 hn2; (try clear g); revert g1; intro g)
    | (go_at_call 42; (with_reducible refine (CR.out _ _ _ _ _ ?_ ?_).mono ?_); (· exact G.sl _ (by simp) hy1); (· exact G.sl _ (by simp) hy2); rintro e w1 ⟨Z1, z1, R1, Z2, z2, R2, rfl, hz1, hz2, hn1, hn2⟩; have ho1 := fun k o hk => Nat.le_trans (G.chg _).size (hn1.new k o hk); have ho2 := fun k o hk => Nat.le_trans (G.chg _).size (hn2.new k o hk); obtain ⟨g1, rfl⟩ := G.new2_ex _ hn1 hn2; clear hn1 hn2; (try clear g); revert g1; intro g))
  all_goals go_wp2_with (with_reducible refine G.any_mark _ ?_; (try generalize Array.size (World.heap (G.w _)) = bk); (try dsimp only [List.set_cons_zero, List.set_cons_succ]); (try clear g); intro g)
  all_goals refine bodyPost_ret (v := .tuple #[.agg #[.bool rs, .slice Z1 (limbs rn').length z1, .slice Z2 (limbs rd').length z2], .int .i64 re]) (by simp [results, Tryz.results50, go_sem]) rfl ?_
  all_goals exact ⟨Z1, z1, R1, Z2, z2, R2, rfl, hz1, hz2, G.pass _ (by simp) ho1, G.pass _ (by simp) ho2⟩
set_option maxRecDepth 20000 in
set_option maxHeartbeats 4000000 in
theorem sub1_any (b cap : Nat) (s1 s2 : Bool) (A1 B1 A2 B2 : Option Addr) (c1 k1 c2 k2 n1 d1 n2 d2 : Nat) (w : World) (f1 : FrAt w b 0 s1 A1 (limbs n1).length c1 B1 (limbs d1).length k1) (f2 : FrAt w b 3 s2 A2 (limbs n2).length c2 B2 (limbs d2).length k2) (hcap : 2 ≤ cap) (h1 : SlW w A1 c1 (limbs n1)) (j1 : SlW w B1 k1 (limbs d1)) (h2 : SlW w A2 c2 (limbs n2)) (j2 : SlW w B2 k2 (limbs d2)) (hT : Tab w)
    (l1 : (limbs n1).length ≤ 10000000) (m1 : (limbs d1).length ≤ 10000000) (l2 : (limbs n2).length ≤ 10000000) (m2 : (limbs d2).length ≤ 10000000) (z1 : d1 ≠ 0) (z2 : d2 ≠ 0) :
    Calls Tryz.prog 49 #[.slice (some ⟨b, 0, none⟩) 2 cap] w (RPE (outX (frac s1 n1 d1 - frac s2 n2 d2)) w) := by
  refine calls_b fun g => ?_
  rw [Rat.sub_eq_add_neg, ← frac_minus s2 n2 d2]
  have C0 := Lib.hid (fun w => minus_any s2 A2 B2 c2 k2 (limbs n2).length (limbs d2).length w)
  generalize (!s2 && decide (0 < (limbs n2).length)) = t2 at *
  have C1 := Lib.hid (fun w a b c d t => fplus_any s1 t2 A1 B1 A2 B2 c1 k1 c2 k2 n1 d1 n2 d2 w a b c d t l1 m1 l2 m2 z1 z2)
  have HT := Lib.hid hT
  have E0 := Lib.hid f1.c0
  have E1 := Lib.hid f1.c1
  have E2 := Lib.hid f1.c2
  have E3 := Lib.hid f2.c0
  have E4 := Lib.hid f2.c1
  have E5 := Lib.hid f2.c2
  clear hT f1 f2 z1 z2
  generalize (limbs n1).length = ln1 at *
  generalize (limbs d1).length = ld1 at *
  generalize (limbs n2).length = ln2 at *
  generalize (limbs d2).length = ld2 at *
  generalize frac s1 n1 d1 + frac t2 n2 d2 = x at *
  have CR := Lib.hid (fun A B c k w h1 h2 => result_any (rneg x) A B c k (rn x) x.den w h1 h2)
  unfold outX
  generalize outP (rneg x) (rn x) x.den = r at *
  obtain ⟨rs, rn', rd', re⟩ := r
  unfold RPE at CR ⊢
  dsimp only at CR ⊢
  have hcap2 : (2 : Int) ≤ (cap : Int) := by omega

  go_enter Tryz.func49, Tryz.ntmps49
  go_wp2_with (with_reducible refine G.any_mark _ ?_; (try generalize Array.size (World.heap (G.w _)) = bk); (try dsimp only [List.set_cons_zero, List.set_cons_succ]); (try clear g); intro g)
  go_region_held3 (fun w' => w'.cell? ⟨b, 0, none⟩ = some (.bool s1) ∧ w'.cell? ⟨b, 1, none⟩ = some (.slice A1 ln1 c1) ∧ w'.cell? ⟨b, 2, none⟩ = some (.slice B1 ld1 k1) ∧ w'.cell? ⟨b, 3, none⟩ = some (.bool s2) ∧ w'.cell? ⟨b, 4, none⟩ = some (.slice A2 ln2 c2) ∧ w'.cell? ⟨b, 5, none⟩ = some (.slice B2 ld2 k2)) (((try simp only [G.drew_eq, G.drewN_eq]); exact ⟨G.old _ (by simp) E0.out, G.old _ (by simp) E1.out, G.old _ (by simp) E2.out, G.old _ (by simp) E3.out, G.old _ (by simp) E4.out, G.old _ (by simp) E5.out⟩)) (first
    | (go_at_call 41; (with_reducible refine (C0.out _).mono ?_); rintro e w1 ⟨rfl, hb⟩; obtain ⟨g1, rfl⟩ := G.call_ex _ hb; clear hb; (try clear g); revert g1; intro g)
    | (go_at_call 45; (with_reducible refine (C1.out _ ?_ ?_ ?_ ?_ ?_).mono ?_); (· exact G.sl _ (by simp) h1); (· exact G.sl _ (by simp) j1); (· exact G.sl _ (by simp) h2); (· exact G.sl _ (by simp) j2);  (· exact G.tab _ HT.out); rintro e w1 ⟨Y1, y1, Q1, Y2, y2, Q2, rfl, hy1, hy2, hn1, hn2⟩; obtain ⟨g1, rfl⟩ := G.new2_ex _ hn1 hn2; clear hn1 hn2; (try clear g); revert g1; intro g)
    | (go_at_call 42; (with_reducible refine (CR.out _ _ _ _ _ ?_ ?_).mono ?_); (· exact G.sl _ (by simp) hy1); (· exact G.sl _ (by simp) hy2); rintro e w1 ⟨Z1, z1, R1, Z2, z2, R2, rfl, hz1, hz2, hn1, hn2⟩; have ho1 := fun k o hk => Nat.le_trans (G.chg _).size (hn1.new k o hk); have ho2 := fun k o hk => Nat.le_trans (G.chg _).size (hn2.new k o hk); obtain ⟨g1, rfl⟩ := G.new2_ex _ hn1 hn2; clear hn1 hn2; (try clear g); revert g1; intro g))
  all_goals go_wp2_with (with_reducible refine G.any_mark _ ?_; (try generalize Array.size (World.heap (G.w _)) = bk); (try dsimp only [List.set_cons_zero, List.set_cons_succ]); (try clear g); intro g)
  all_goals refine bodyPost_ret (v := .tuple #[.agg #[.bool rs, .slice Z1 (limbs rn').length z1, .slice Z2 (limbs rd').length z2], .int .i64 re]) (by simp [results, Tryz.results49, go_sem]) rfl ?_
  all_goals exact ⟨Z1, z1, R1, Z2, z2, R2, rfl, hz1, hz2, G.pass _ (by simp) ho1, G.pass _ (by simp) ho2⟩
set_option maxRecDepth 20000 in
set_option maxHeartbeats 4000000 in
theorem div1_any (b cap : Nat) (s1 s2 : Bool) (A1 B1 A2 B2 : Option Addr) (c1 k1 c2 k2 n1 d1 n2 d2 : Nat) (w : World) (f1 : FrAt w b 0 s1 A1 (limbs n1).length c1 B1 (limbs d1).length k1) (f2 : FrAt w b 3 s2 A2 (limbs n2).length c2 B2 (limbs d2).length k2) (hcap : 2 ≤ cap) (h1 : SlW w A1 c1 (limbs n1)) (j1 : SlW w B1 k1 (limbs d1)) (h2 : SlW w A2 c2 (limbs n2)) (j2 : SlW w B2 k2 (limbs d2)) (hT : Tab w)
    (l1 : (limbs n1).length ≤ 10000000) (m1 : (limbs d1).length ≤ 10000000) (l2 : (limbs n2).length ≤ 10000000) (m2 : (limbs d2).length ≤ 10000000) (z1 : d1 ≠ 0) (z2 : d2 ≠ 0) (y2 : n2 ≠ 0) :
    Calls Tryz.prog 53 #[.slice (some ⟨b, 0, none⟩) 2 cap] w (RPE (outX (frac s1 n1 d1 / frac s2 n2 d2)) w) := by
  refine calls_b fun g => ?_
  rw [Rat.div_def, frac_inv s2 y2]
  have C0 := Lib.hid (fun w => inverse_any s2 A2 B2 c2 k2 (limbs n2).length (limbs d2).length w)
  have C1 := Lib.hid (fun w a b c d t => ftimes_any s1 s2 A1 B1 B2 A2 c1 k1 k2 c2 n1 d1 d2 n2 w a b c d t l1 m1 m2 l2 z1 y2)
  have hn0 : (((limbs n2).length : Int) == 0) = false := (limbs_ne y2).1
  clear y2
  have HT := Lib.hid hT
  have E0 := Lib.hid f1.c0
  have E1 := Lib.hid f1.c1
  have E2 := Lib.hid f1.c2
  have E3 := Lib.hid f2.c0
  have E4 := Lib.hid f2.c1
  have E5 := Lib.hid f2.c2
  clear hT f1 f2 z1 z2
  generalize (limbs n1).length = ln1 at *
  generalize (limbs d1).length = ld1 at *
  generalize (limbs n2).length = ln2 at *
  generalize (limbs d2).length = ld2 at *
  generalize frac s1 n1 d1 * frac s2 d2 n2 = x at *
  have CR := Lib.hid (fun A B c k w h1 h2 => result_any (rneg x) A B c k (rn x) x.den w h1 h2)
  unfold outX
  generalize outP (rneg x) (rn x) x.den = r at *
  obtain ⟨rs, rn', rd', re⟩ := r
  unfold RPE at CR ⊢
  dsimp only at CR ⊢
  have hcap2 : (2 : Int) ≤ (cap : Int) := by omega

  go_enter Tryz.func53, Tryz.ntmps53
  have E4g := fun (M : List Blk) (g : G w [] M [heapOf w]) => G.old g (List.mem_cons_self ..) E4.out
  go_wp2_with (with_reducible refine G.any_mark _ ?_; (try generalize Array.size (World.heap (G.w _)) = bk); (try dsimp only [List.set_cons_zero, List.set_cons_succ]); (try clear g); intro g)
  clear E4g
  go_region_held3 (fun w' => w'.cell? ⟨b, 0, none⟩ = some (.bool s1) ∧ w'.cell? ⟨b, 1, none⟩ = some (.slice A1 ln1 c1) ∧ w'.cell? ⟨b, 2, none⟩ = some (.slice B1 ld1 k1) ∧ w'.cell? ⟨b, 3, none⟩ = some (.bool s2) ∧ w'.cell? ⟨b, 4, none⟩ = some (.slice A2 ln2 c2) ∧ w'.cell? ⟨b, 5, none⟩ = some (.slice B2 ld2 k2)) (((try simp only [G.drew_eq, G.drewN_eq]); exact ⟨G.old _ (by simp) E0.out, G.old _ (by simp) E1.out, G.old _ (by simp) E2.out, G.old _ (by simp) E3.out, G.old _ (by simp) E4.out, G.old _ (by simp) E5.out⟩)) (first
    | (go_at_call 54; (with_reducible refine (C0.out _).mono ?_); rintro e w1 ⟨rfl, hb⟩; obtain ⟨g1, rfl⟩ := G.call_ex _ hb; clear hb; (try clear g); revert g1; intro g)
    | (go_at_call 51; (with_reducible refine (C1.out _ ?_ ?_ ?_ ?_ ?_).mono ?_); (· exact G.sl _ (by simp) h1); (· exact G.sl _ (by simp) j1); (· exact G.sl _ (by simp) j2); (· exact G.sl _ (by simp) h2);  (· exact G.tab _ HT.out); rintro e w1 ⟨Y1, y1, Q1, Y2, y2, Q2, rfl, hy1, hy2, hn1, hn2⟩; obtain ⟨g1, rfl⟩ := G.new2_ex _ hn1 hn2; clear hn1 hn2; (try clear g); revert g1; intro g)
    | (go_at_call 42; (with_reducible refine (CR.out _ _ _ _ _ ?_ ?_).mono ?_); (· exact G.sl _ (by simp) hy1); (· exact G.sl _ (by simp) hy2); rintro e w1 ⟨Z1, z1, R1, Z2, z2, R2, rfl, hz1, hz2, hn1, hn2⟩; have ho1 := fun k o hk => Nat.le_trans (G.chg _).size (hn1.new k o hk); have ho2 := fun k o hk => Nat.le_trans (G.chg _).size (hn2.new k o hk); obtain ⟨g1, rfl⟩ := G.new2_ex _ hn1 hn2; clear hn1 hn2; (try clear g); revert g1; intro g))
  all_goals go_wp2_with (with_reducible refine G.any_mark _ ?_; (try generalize Array.size (World.heap (G.w _)) = bk); (try dsimp only [List.set_cons_zero, List.set_cons_succ]); (try clear g); intro g)
  all_goals refine bodyPost_ret (v := .tuple #[.agg #[.bool rs, .slice Z1 (limbs rn').length z1, .slice Z2 (limbs rd').length z2], .int .i64 re]) (by simp [results, Tryz.results53, go_sem]) rfl ?_
  all_goals exact ⟨Z1, z1, R1, Z2, z2, R2, rfl, hz1, hz2, G.pass _ (by simp) ho1, G.pass _ (by simp) ho2⟩
end Go.Proofs.YtjdnpkicdmapnaaGreatDoor
namespace Go.Proofs.YtjdnpkicdmapnaaGreatDoor
open Go.RowKit GW NL
/-- What is returned is a fraction by its parts, in new memory. -/
def RNq (s : Bool) (n d : Nat) (w : World) (e : Ending) (w' : World) : Prop := ∃ A c F B k H, e = .returned (.agg #[.bool s, .slice A (limbs n).length c, .slice B (limbs d).length k]) ∧ F.Sl A c (limbs n) ∧ H.Sl B k (limbs d) ∧ New w w' F ∧ New w w' H
theorem whole_any (s : Bool) (A : Option Addr) (c n : Nat) (w : World) :
    Calls Tryz.prog 107 #[.bool s, .slice A n c] w fun e w' => ∃ B k H, e = .returned (.agg #[.bool s, .slice A n c, .slice B (limbs 1).length k]) ∧ H.Sl B k (limbs 1) ∧ New w w' H := by
  refine calls_b fun g => ?_
  have h1 : limbs 1 = [1] := limbs_one (by decide) (by decide)
  rw [h1]
  have HK : Hid (Ok [1]) := Lib.hid (Ok.cons (by decide) Ok.nil)
  go_enter Tryz.func107, Tryz.ntmps107
  go_wp2_with (with_reducible refine G.any_mark _ ?_; (try generalize Array.size (World.heap (G.w _)) = bk); (try dsimp only [List.set_cons_zero, List.set_cons_succ]); (try clear g); intro g)
  refine bodyPost_ret (v := .agg #[.bool s, .slice A n c, .slice (some ⟨bk, 0, none⟩) 1 1]) (by simp [results, Tryz.results107, go_sem]) rfl ?_
  exact ⟨some ⟨bk, 0, none⟩, 1, blkF bk (.cells (u32s [1]).toArray 29 (0, 0)), rfl, sl_blk (by simp) (by decide) HK.out, G.give _ (List.mem_cons_self ..)⟩
/-- the size of the greatest integer that is at most a fraction -/
def flq (s : Bool) (n d : Nat) : Nat := if s = true ∧ n % d ≠ 0 then n / d + 1 else n / d
set_option maxRecDepth 20000 in
set_option maxHeartbeats 2000000 in
theorem floor_any (s : Bool) (A B : Option Addr) (c k n d : Nat) (w : World) (h1 : SlW w A c (limbs n)) (h2 : SlW w B k (limbs d)) (hl1 : (limbs n).length ≤ 50000000) (hl2 : (limbs d).length ≤ 50000000) (hd : d ≠ 0) :
    Calls Tryz.prog 79 #[.agg #[.bool s, .slice A (limbs n).length c, .slice B (limbs d).length k]] w (RNq (s && decide (flq s n d ≠ 0)) (flq s n d) 1 w) := by
  refine calls_b fun g => ?_
  have C1 := Lib.hid (fun w h1 h2 => lover_any A B c k n d w h1 h2 (by omega) (by omega) hd)
  have hql : (limbs (n / d)).length ≤ 50000000 := Nat.le_trans (limbs_len_mono (Nat.div_le_self _ _)) hl1
  have l1 : limbs 1 = [1] := limbs_one (by decide) (by decide)
  have HK : Hid (Ok [1]) := Lib.hid (Ok.cons (by decide) Ok.nil)
  have C2 := Lib.hid (fun A b c w h1 h2 => ladd A (some ⟨b, 0, none⟩) c 1 (n / d) 1 w h1 h2 (by omega) (by rw [l1]; decide))
  rw [l1] at C2
  simp only [List.length_cons, List.length_nil, Nat.zero_add] at C2
  have hq1 : n / d + 1 ≠ 0 := Nat.succ_ne_zero _
  have hqp : 0 < (limbs (n / d + 1)).length := (limbs_ne hq1).2
  have hrz : (n % d = 0 ∧ (limbs (n % d)).length = 0) ∨ (n % d ≠ 0 ∧ 0 < (limbs (n % d)).length) := by
    by_cases h : n % d = 0
    · left; rw [h, limbs_zero]; exact ⟨rfl, rfl⟩
    · right; exact ⟨h, (limbs_ne h).2⟩
  have hqz : (n / d = 0 ∧ (limbs (n / d)).length = 0) ∨ (n / d ≠ 0 ∧ 0 < (limbs (n / d)).length) := by
    by_cases h : n / d = 0
    · left; rw [h, limbs_zero]; exact ⟨rfl, rfl⟩
    · right; exact ⟨h, (limbs_ne h).2⟩
  unfold flq
  generalize n % d = R at *
  generalize n / d = Q at *
  have H1 := Lib.hid h1
  have H2 := Lib.hid h2
  have L1 := Lib.hid l1
  clear h1 h2 l1 hd hq1 hql
  generalize (limbs n).length = ln at *
  generalize (limbs d).length = ld at *
  generalize hlQ : (limbs Q).length = lQ at *
  have HlQ := Lib.hid hlQ
  generalize hlQ1 : (limbs (Q + 1)).length = lQ1 at *
  have HlQ1 := Lib.hid hlQ1
  generalize hlR : (limbs R).length = lR at *
  have HlR := Lib.hid hlR
  clear hlQ hlQ1 hlR
  cases s
  · rw [if_neg (fun h => by cases h.1), Bool.false_and]
    go_enter Tryz.func79, Tryz.ntmps79
    go_wp2_with (with_reducible refine G.any_mark _ ?_; (try generalize Array.size (World.heap (G.w _)) = bk); (try dsimp only [List.set_cons_zero, List.set_cons_succ]); (try clear g); intro g)
    refine (C1.out _ (G.sl g (by simp) H1.out) (G.sl g (by simp) H2.out)).mono ?_
    rintro e w1 ⟨Aq, cq, Fq, Bq, dq, Hq, rfl, hsq, htq, hn, hm⟩
    have hnnq := fun k o hk => Nat.le_trans g.chg.size (hn.new k o hk)
    have hmmq := fun k o hk => Nat.le_trans g.chg.size (hm.new k o hk)
    obtain ⟨g1, rfl⟩ := G.new2_ex _ hn hm
    clear hn hm
    (try clear g)
    revert g1
    intro g
    rw [HlQ.out, HlR.out]
    go_wp2_with (with_reducible refine G.any_mark _ ?_; (try generalize Array.size (World.heap (G.w _)) = bk); (try dsimp only [List.set_cons_zero, List.set_cons_succ]); (try clear g); intro g)
    (try (refine cmark _ ?_; (try dsimp only [List.set_cons_zero, List.set_cons_succ]); (try clear g); intro g))
    refine (whole_any _ _ _ _ _).mono ?_
    rintro e w1 ⟨B1, k1, P1, rfl, hs1, hn1⟩
    have ho1 := fun k o hk => Nat.le_trans (G.chg _).size (hn1.new k o hk)
    obtain ⟨g1, rfl⟩ := G.new_ex _ hn1
    clear hn1
    (try clear g)
    revert g1
    intro g
    generalize hl1e : (limbs 1).length = le at *
    have HLE := Lib.hid hl1e
    clear hl1e
    go_wp2_with (with_reducible refine G.any_mark _ ?_; (try generalize Array.size (World.heap (G.w _)) = bk); (try dsimp only [List.set_cons_zero, List.set_cons_succ]); (try clear g); intro g)
    refine bodyPost_ret (v := .agg #[.bool false, .slice Aq lQ cq, .slice B1 le k1]) (by simp [results, Tryz.results79, go_sem]) rfl ?_
    exact ⟨Aq, cq, Fq, B1, k1, P1, by rw [HlQ.out, HLE.out], hsq, hs1, G.pass _ (by simp) hnnq, G.pass _ (by simp) ho1⟩
  · rcases hrz with ⟨r1, r2⟩ | ⟨r1, r2⟩
    · rw [if_neg (fun h => h.2 r1), Bool.true_and]
      clear r1
      subst r2
      rcases hqz with ⟨q1, q2⟩ | ⟨q1, q2⟩
      · rw [decide_eq_false (fun h => h q1)]
        clear q1
        subst q2
        go_enter Tryz.func79, Tryz.ntmps79
        go_wp2_with (with_reducible refine G.any_mark _ ?_; (try generalize Array.size (World.heap (G.w _)) = bk); (try dsimp only [List.set_cons_zero, List.set_cons_succ]); (try clear g); intro g)
        refine (C1.out _ (G.sl g (by simp) H1.out) (G.sl g (by simp) H2.out)).mono ?_
        rintro e w1 ⟨Aq, cq, Fq, Bq, dq, Hq, rfl, hsq, htq, hn, hm⟩
        have hnnq := fun k o hk => Nat.le_trans g.chg.size (hn.new k o hk)
        have hmmq := fun k o hk => Nat.le_trans g.chg.size (hm.new k o hk)
        obtain ⟨g1, rfl⟩ := G.new2_ex _ hn hm
        clear hn hm
        (try clear g)
        revert g1
        intro g
        rw [HlQ.out, HlR.out]
        go_wp2_with (with_reducible refine G.any_mark _ ?_; (try generalize Array.size (World.heap (G.w _)) = bk); (try dsimp only [List.set_cons_zero, List.set_cons_succ]); (try clear g); intro g)
        (try (refine cmark _ ?_; (try dsimp only [List.set_cons_zero, List.set_cons_succ]); (try clear g); intro g))
        refine (whole_any _ _ _ _ _).mono ?_
        rintro e w1 ⟨B1, k1, P1, rfl, hs1, hn1⟩
        have ho1 := fun k o hk => Nat.le_trans (G.chg _).size (hn1.new k o hk)
        obtain ⟨g1, rfl⟩ := G.new_ex _ hn1
        clear hn1
        (try clear g)
        revert g1
        intro g
        generalize hl1e : (limbs 1).length = le at *
        have HLE := Lib.hid hl1e
        clear hl1e
        go_wp2_with (with_reducible refine G.any_mark _ ?_; (try generalize Array.size (World.heap (G.w _)) = bk); (try dsimp only [List.set_cons_zero, List.set_cons_succ]); (try clear g); intro g)
        refine bodyPost_ret (v := .agg #[.bool false, .slice Aq 0 cq, .slice B1 le k1]) (by simp [results, Tryz.results79, go_sem]) rfl ?_
        exact ⟨Aq, cq, Fq, B1, k1, P1, by rw [HlQ.out, HLE.out], hsq, hs1, G.pass _ (by simp) hnnq, G.pass _ (by simp) ho1⟩
      · rw [decide_eq_true q1]
        have q3 : (0 : Int) < (lQ : Int) := by omega
        clear q1
        go_enter Tryz.func79, Tryz.ntmps79
        go_wp2_with (with_reducible refine G.any_mark _ ?_; (try generalize Array.size (World.heap (G.w _)) = bk); (try dsimp only [List.set_cons_zero, List.set_cons_succ]); (try clear g); intro g)
        refine (C1.out _ (G.sl g (by simp) H1.out) (G.sl g (by simp) H2.out)).mono ?_
        rintro e w1 ⟨Aq, cq, Fq, Bq, dq, Hq, rfl, hsq, htq, hn, hm⟩
        have hnnq := fun k o hk => Nat.le_trans g.chg.size (hn.new k o hk)
        have hmmq := fun k o hk => Nat.le_trans g.chg.size (hm.new k o hk)
        obtain ⟨g1, rfl⟩ := G.new2_ex _ hn hm
        clear hn hm
        (try clear g)
        revert g1
        intro g
        rw [HlQ.out, HlR.out]
        go_wp2_with (with_reducible refine G.any_mark _ ?_; (try generalize Array.size (World.heap (G.w _)) = bk); (try dsimp only [List.set_cons_zero, List.set_cons_succ]); (try clear g); intro g)
        (try (refine cmark _ ?_; (try dsimp only [List.set_cons_zero, List.set_cons_succ]); (try clear g); intro g))
        refine (whole_any _ _ _ _ _).mono ?_
        rintro e w1 ⟨B1, k1, P1, rfl, hs1, hn1⟩
        have ho1 := fun k o hk => Nat.le_trans (G.chg _).size (hn1.new k o hk)
        obtain ⟨g1, rfl⟩ := G.new_ex _ hn1
        clear hn1
        (try clear g)
        revert g1
        intro g
        generalize hl1e : (limbs 1).length = le at *
        have HLE := Lib.hid hl1e
        clear hl1e
        go_wp2_with (with_reducible refine G.any_mark _ ?_; (try generalize Array.size (World.heap (G.w _)) = bk); (try dsimp only [List.set_cons_zero, List.set_cons_succ]); (try clear g); intro g)
        refine bodyPost_ret (v := .agg #[.bool true, .slice Aq lQ cq, .slice B1 le k1]) (by simp [results, Tryz.results79, go_sem]) rfl ?_
        exact ⟨Aq, cq, Fq, B1, k1, P1, by rw [HlQ.out, HLE.out], hsq, hs1, G.pass _ (by simp) hnnq, G.pass _ (by simp) ho1⟩
    · rw [if_pos ⟨rfl, r1⟩, Bool.true_and, decide_eq_true (Nat.succ_ne_zero Q)]
      have r3 : (0 : Int) < (lR : Int) := by omega
      have q3 : (0 : Int) < (lQ1 : Int) := by omega
      clear r1 hqz
      go_enter Tryz.func79, Tryz.ntmps79
      go_wp2_with (with_reducible refine G.any_mark _ ?_; (try generalize Array.size (World.heap (G.w _)) = bk); (try dsimp only [List.set_cons_zero, List.set_cons_succ]); (try clear g); intro g)
      refine (C1.out _ (G.sl g (by simp) H1.out) (G.sl g (by simp) H2.out)).mono ?_
      rintro e w1 ⟨Aq, cq, Fq, Bq, dq, Hq, rfl, hsq, htq, hn, hm⟩
      have hnnq := fun k o hk => Nat.le_trans g.chg.size (hn.new k o hk)
      have hmmq := fun k o hk => Nat.le_trans g.chg.size (hm.new k o hk)
      obtain ⟨g1, rfl⟩ := G.new2_ex _ hn hm
      clear hn hm
      (try clear g)
      revert g1
      intro g
      rw [HlQ.out, HlR.out]
      go_wp2_with (with_reducible refine G.any_mark _ ?_; (try generalize Array.size (World.heap (G.w _)) = bk); (try dsimp only [List.set_cons_zero, List.set_cons_succ]); (try clear g); intro g)
      have hsl1 : SlW g.w (some ⟨bk, 0, none⟩) 1 [1] := (sl_blk (T := 29) (fr := (0, 0)) (l := [1]) (by simp) (by decide) HK.out).at (blkF_sub g.blk0)
      refine (C2.out _ _ _ _ (G.sl g (by simp) hsq) hsl1).mono ?_
      rintro e w1 ⟨Ap, cp, Fp, rfl, hsp, hn⟩
      have hnnp := fun k o hk => Nat.le_trans g.chg.size (hn.new k o hk)
      obtain ⟨g1, rfl⟩ := G.new_ex _ hn
      clear hn
      (try clear g)
      revert g1
      intro g
      rw [HlQ1.out]
      go_wp2_with (with_reducible refine G.any_mark _ ?_; (try generalize Array.size (World.heap (G.w _)) = bk); (try dsimp only [List.set_cons_zero, List.set_cons_succ]); (try clear g); intro g)
      (try (refine cmark _ ?_; (try dsimp only [List.set_cons_zero, List.set_cons_succ]); (try clear g); intro g))
      refine (whole_any _ _ _ _ _).mono ?_
      rintro e w1 ⟨B1, k1, P1, rfl, hs1, hn1⟩
      have ho1 := fun k o hk => Nat.le_trans (G.chg _).size (hn1.new k o hk)
      obtain ⟨g1, rfl⟩ := G.new_ex _ hn1
      clear hn1
      (try clear g)
      revert g1
      intro g
      generalize hl1e : (limbs 1).length = le at *
      have HLE := Lib.hid hl1e
      clear hl1e
      go_wp2_with (with_reducible refine G.any_mark _ ?_; (try generalize Array.size (World.heap (G.w _)) = bk); (try dsimp only [List.set_cons_zero, List.set_cons_succ]); (try clear g); intro g)
      refine bodyPost_ret (v := .agg #[.bool true, .slice Ap lQ1 cp, .slice B1 le k1]) (by simp [results, Tryz.results79, go_sem]) rfl ?_
      exact ⟨Ap, cp, Fp, B1, k1, P1, by rw [HlQ1.out, HLE.out], hsp, hs1, G.pass _ (by simp) hnnp, G.pass _ (by simp) ho1⟩
theorem rn_frac_le (s : Bool) {n d : Nat} (hd : d ≠ 0) : rn (frac s n d) ≤ n := by rw [frac_rn s hd]; exact Nat.div_le_self _ _
theorem den_frac_le (s : Bool) {n d : Nat} (hd : d ≠ 0) : (frac s n d).den ≤ d := by rw [frac_den s hd]; exact Nat.div_le_self _ _
/-- a half more, for a fraction that is not negative -/
def hf (n d : Nat) : Rat := frac false n d + frac false 1 2
theorem hf_eq {n d : Nat} (hd : d ≠ 0) : hf n d = frac false (n * 2 + 1 * d) (d * 2) := frac_add_same false hd (by decide)
theorem hf_neg {n d : Nat} (hd : d ≠ 0) : rneg (hf n d) = false := by
  rw [hf_eq hd, frac_rneg false (Nat.mul_ne_zero hd (by decide))]; rfl
/-- the nearest integer to a fraction that is not negative -/
def rdq (n d : Nat) : Nat := rn (hf n d) / (hf n d).den
set_option maxRecDepth 20000 in
set_option maxHeartbeats 2000000 in
theorem round_pos (A B : Option Addr) (c k n d : Nat) (w : World) (h1 : SlW w A c (limbs n)) (h2 : SlW w B k (limbs d)) (hT : Tab w) (hl1 : (limbs n).length ≤ 10000000) (hl2 : (limbs d).length ≤ 10000000) (hd : d ≠ 0) :
    Calls Tryz.prog 81 #[.agg #[.bool false, .slice A (limbs n).length c, .slice B (limbs d).length k]] w (RNq false (rdq n d) 1 w) := by
  refine calls_b fun g => ?_
  have l1 : limbs 1 = [1] := limbs_one (by decide) (by decide)
  have l2 : limbs 2 = [2] := limbs_one (by decide) (by decide)
  have HK1 : Hid (Ok [1]) := Lib.hid (Ok.cons (by decide) Ok.nil)
  have HK2 : Hid (Ok [2]) := Lib.hid (Ok.cons (by decide) Ok.nil)
  have C1 := Lib.hid (fun w b1 b2 ha hb hc hd' ht => (by
    have := fplus_any false false A B (some ⟨b1, 0, none⟩) (some ⟨b2, 0, none⟩) c k 1 1 n d 1 2 w ha hb (by rw [l1]; exact hc) (by rw [l2]; exact hd') ht hl1 hl2 (by rw [l1]; decide) (by rw [l2]; decide) hd (by decide)
    rw [l1, l2] at this
    exact this : Calls Tryz.prog 45 #[.agg #[.bool false, .slice A (limbs n).length c, .slice B (limbs d).length k], .agg #[.bool false, .slice (some ⟨b1, 0, none⟩) 1 1, .slice (some ⟨b2, 0, none⟩) 1 1]] w (RNf (hf n d) w)))
  have hb1 : (limbs (rn (hf n d))).length ≤ 50000000 := by
    rw [hf_eq hd]
    refine Nat.le_trans (limbs_len_mono (rn_frac_le false (Nat.mul_ne_zero hd (by decide)))) ?_
    have a1 := limbs_add_len (n * 2) (1 * d)
    have a2 := limbs_mul_len n 2
    rw [l2] at a2
    rw [Nat.one_mul] at a1 ⊢
    simp only [List.length_cons, List.length_nil] at a2
    omega
  have hb2 : (limbs (hf n d).den).length ≤ 50000000 := by
    rw [hf_eq hd]
    refine Nat.le_trans (limbs_len_mono (den_frac_le false (Nat.mul_ne_zero hd (by decide)))) ?_
    have a2 := limbs_mul_len d 2
    rw [l2] at a2
    simp only [List.length_cons, List.length_nil] at a2
    omega
  have CF := Lib.hid (fun A B c k w h1 h2 => floor_any false A B c k (rn (hf n d)) (hf n d).den w h1 h2 hb1 hb2 (hf n d).den_nz)
  have hfl : flq false (rn (hf n d)) (hf n d).den = rdq n d := by unfold flq rdq; rw [if_neg (fun h => by cases h.1)]
  rw [hfl] at CF
  simp only [Bool.false_and] at CF
  have HNG := Lib.hid (hf_neg (n := n) hd)
  have HT := Lib.hid hT
  have H1 := Lib.hid h1
  have H2 := Lib.hid h2
  clear h1 h2 l1 l2 hd hT hb1 hb2 hfl
  generalize rdq n d = Q at *
  generalize hf n d = y at *
  unfold RNf at C1
  rw [HNG.out] at C1
  generalize (limbs n).length = ln at *
  generalize (limbs d).length = ld at *
  go_enter Tryz.func81, Tryz.ntmps81
  go_wp2_with (with_reducible refine G.any_mark _ ?_; (try generalize Array.size (World.heap (G.w _)) = bk); (try dsimp only [List.set_cons_zero, List.set_cons_succ]); (try clear g); intro g)
  obtain ⟨b2, rfl⟩ : ∃ b2, b2 = bk := ⟨_, rfl⟩
  obtain ⟨b1, rfl⟩ : ∃ b1, b1 = bk := ⟨_, rfl⟩
  have hs1 : SlW g.w (some ⟨b1, 0, none⟩) 1 [1] := (sl_blk (T := 29) (fr := (0, 0)) (l := [1]) (by simp) (by decide) HK1.out).at (blkF_sub g.blk1)
  have hs2 : SlW g.w (some ⟨b2, 0, none⟩) 1 [2] := (sl_blk (T := 29) (fr := (0, 0)) (l := [2]) (by simp) (by decide) HK2.out).at (blkF_sub g.blk0)
  refine (C1.out _ _ _ (G.sl g (by simp) H1.out) (G.sl g (by simp) H2.out) hs1 hs2 (G.tab g HT.out)).mono ?_
  rintro e w1 ⟨Y1, y1, Q1, Y2, y2, Q2, rfl, hy1, hy2, hn1, hn2⟩
  obtain ⟨g1, rfl⟩ := G.new2_ex _ hn1 hn2
  clear hn1 hn2 hs1 hs2
  (try clear g)
  revert g1
  intro g
  go_wp2_with (with_reducible refine G.any_mark _ ?_; (try generalize Array.size (World.heap (G.w _)) = bk); (try dsimp only [List.set_cons_zero, List.set_cons_succ]); (try clear g); intro g)
  refine (CF.out _ _ _ _ _ (G.sl g (by simp) hy1) (G.sl g (by simp) hy2)).mono ?_
  rintro e w1 ⟨Z1, z1, R1, Z2, z2, R2, rfl, hz1, hz2, hn1, hn2⟩
  have ho1 := fun k o hk => Nat.le_trans (G.chg _).size (hn1.new k o hk)
  have ho2 := fun k o hk => Nat.le_trans (G.chg _).size (hn2.new k o hk)
  obtain ⟨g1, rfl⟩ := G.new2_ex _ hn1 hn2
  clear hn1 hn2
  (try clear g)
  revert g1
  intro g
  generalize hl1e : (limbs 1).length = le at *
  have HLE := Lib.hid hl1e
  clear hl1e
  go_wp2_with (with_reducible refine G.any_mark _ ?_; (try generalize Array.size (World.heap (G.w _)) = bk); (try dsimp only [List.set_cons_zero, List.set_cons_succ]); (try clear g); intro g)
  refine bodyPost_ret (v := .agg #[.bool false, .slice Z1 (limbs Q).length z1, .slice Z2 le z2]) (by simp [results, Tryz.results81, go_sem]) rfl ?_
  exact ⟨Z1, z1, R1, Z2, z2, R2, by rw [HLE.out], hz1, hz2, G.pass _ (by simp) ho1, G.pass _ (by simp) ho2⟩
set_option maxRecDepth 20000 in
set_option maxHeartbeats 2000000 in
theorem round_neg (A B : Option Addr) (c k n d : Nat) (w : World) (h1 : SlW w A c (limbs n)) (h2 : SlW w B k (limbs d)) (hT : Tab w) (hl1 : (limbs n).length ≤ 10000000) (hl2 : (limbs d).length ≤ 10000000) (hd : d ≠ 0) :
    Calls Tryz.prog 81 #[.agg #[.bool true, .slice A (limbs n).length c, .slice B (limbs d).length k]] w (RNq (decide (rdq n d ≠ 0)) (rdq n d) 1 w) := by
  refine calls_b fun g => ?_
  have C0 := Lib.hid (fun w => minus_any true A B c k (limbs n).length (limbs d).length w)
  simp only [Bool.not_true, Bool.false_and] at C0
  have C1 := Lib.hid (fun w h1 h2 ht => round_pos A B c k n d w h1 h2 ht hl1 hl2 hd)
  have HT := Lib.hid hT
  have H1 := Lib.hid h1
  have H2 := Lib.hid h2
  clear h1 h2 hd hT
  generalize rdq n d = Q at *
  generalize (limbs n).length = ln at *
  generalize (limbs d).length = ld at *
  have C2 := Lib.hid (fun A B c k w => minus_any false A B c k (limbs Q).length (limbs 1).length w)
  have hQ : (!false && decide (0 < (limbs Q).length)) = decide (Q ≠ 0) := by
    rw [Bool.not_false, Bool.true_and]
    apply decide_eq_decide.2
    constructor
    · intro h h0; rw [h0, limbs_zero] at h; exact absurd h (by simp)
    · intro h; exact (limbs_ne h).2
  rw [hQ] at C2
  clear hQ
  generalize decide (Q ≠ 0) = t at *
  go_enter Tryz.func81, Tryz.ntmps81
  go_wp2_with (with_reducible refine G.any_mark _ ?_; (try generalize Array.size (World.heap (G.w _)) = bk); (try dsimp only [List.set_cons_zero, List.set_cons_succ]); (try clear g); intro g)
  refine (C0.out _).mono ?_
  rintro e w1 ⟨rfl, hb⟩
  obtain ⟨g1, rfl⟩ := G.call_ex _ hb
  clear hb
  (try clear g)
  revert g1
  intro g
  go_wp2_with (with_reducible refine G.any_mark _ ?_; (try generalize Array.size (World.heap (G.w _)) = bk); (try dsimp only [List.set_cons_zero, List.set_cons_succ]); (try clear g); intro g)
  refine (C1.out _ (G.sl g (by simp) H1.out) (G.sl g (by simp) H2.out) (G.tab g HT.out)).mono ?_
  rintro e w1 ⟨Z1, z1, R1, Z2, z2, R2, rfl, hz1, hz2, hn1, hn2⟩
  have ho1 := fun k o hk => Nat.le_trans (G.chg _).size (hn1.new k o hk)
  have ho2 := fun k o hk => Nat.le_trans (G.chg _).size (hn2.new k o hk)
  obtain ⟨g1, rfl⟩ := G.new2_ex _ hn1 hn2
  clear hn1 hn2
  (try clear g)
  revert g1
  intro g
  go_wp2_with (with_reducible refine G.any_mark _ ?_; (try generalize Array.size (World.heap (G.w _)) = bk); (try dsimp only [List.set_cons_zero, List.set_cons_succ]); (try clear g); intro g)
  refine (C2.out _ _ _ _ _).mono ?_
  rintro e w1 ⟨rfl, hb⟩
  obtain ⟨g1, rfl⟩ := G.call_ex _ hb
  clear hb
  (try clear g)
  revert g1
  intro g
  generalize hl1e : (limbs 1).length = le at *
  have HLE := Lib.hid hl1e
  clear hl1e
  go_wp2_with (with_reducible refine G.any_mark _ ?_; (try generalize Array.size (World.heap (G.w _)) = bk); (try dsimp only [List.set_cons_zero, List.set_cons_succ]); (try clear g); intro g)
  refine bodyPost_ret (v := .agg #[.bool t, .slice Z1 (limbs Q).length z1, .slice Z2 le z2]) (by simp [results, Tryz.results81, go_sem]) rfl ?_
  exact ⟨Z1, z1, R1, Z2, z2, R2, by rw [HLE.out], hz1, hz2, G.pass _ (by simp) ho1, G.pass _ (by simp) ho2⟩
theorem round_any (s : Bool) (A B : Option Addr) (c k n d : Nat) (w : World) (h1 : SlW w A c (limbs n)) (h2 : SlW w B k (limbs d)) (hT : Tab w) (hl1 : (limbs n).length ≤ 10000000) (hl2 : (limbs d).length ≤ 10000000) (hd : d ≠ 0) :
    Calls Tryz.prog 81 #[.agg #[.bool s, .slice A (limbs n).length c, .slice B (limbs d).length k]] w (RNq (s && decide (rdq n d ≠ 0)) (rdq n d) 1 w) := by
  cases s
  · exact round_pos A B c k n d w h1 h2 hT hl1 hl2 hd
  · exact round_neg A B c k n d w h1 h2 hT hl1 hl2 hd
end Go.Proofs.YtjdnpkicdmapnaaGreatDoor
namespace Go.Proofs.YtjdnpkicdmapnaaGreatDoor
open Go.RowKit GW NL
set_option maxRecDepth 20000 in
set_option maxHeartbeats 4000000 in
theorem neg1_any (b cap : Nat) (s : Bool) (A B : Option Addr) (c k n d : Nat) (w : World) (f1 : FrAt w b 0 s A (limbs n).length c B (limbs d).length k) (hcap : 1 ≤ cap) (h1 : SlW w A c (limbs n)) (j1 : SlW w B k (limbs d)) (hT : Tab w) (l1 : (limbs n).length ≤ 10000000) (m1 : (limbs d).length ≤ 10000000) (z1 : d ≠ 0) :
    Calls Tryz.prog 40 #[.slice (some ⟨b, 0, none⟩) 1 cap] w (RPE (outP (!s && decide (0 < (limbs n).length)) n d) w) := by
  refine calls_b fun g => ?_
  have C0 := Lib.hid (fun w => minus_any s A B c k (limbs n).length (limbs d).length w)
  have CR := Lib.hid (fun A B c k w h1 h2 => result_any (!s && decide (0 < (limbs n).length)) A B c k n d w h1 h2)
  generalize (!s && decide (0 < (limbs n).length)) = t at *
  have HT := Lib.hid hT
  have E0 := fun (M : List Blk) (g : G w [] M [heapOf w]) => G.old g (List.mem_cons_self ..) f1.c0
  have E1 := fun (M : List Blk) (g : G w [] M [heapOf w]) => G.old g (List.mem_cons_self ..) f1.c1
  have E2 := fun (M : List Blk) (g : G w [] M [heapOf w]) => G.old g (List.mem_cons_self ..) f1.c2
  have H1 := Lib.hid h1
  have J1 := Lib.hid j1
  clear hT f1 z1 h1 j1
  generalize (limbs n).length = ln at *
  generalize (limbs d).length = ld at *
  generalize outP t n d = r at *
  obtain ⟨rs, rn', rd', re⟩ := r
  unfold RPE at CR ⊢
  dsimp only at CR ⊢
  have hcap2 : (1 : Int) ≤ (cap : Int) := by omega
  go_enter Tryz.func40, Tryz.ntmps40
  go_wp2_with (with_reducible refine G.any_mark _ ?_; (try generalize Array.size (World.heap (G.w _)) = bk); (try dsimp only [List.set_cons_zero, List.set_cons_succ]); (try clear g); intro g)
  clear E0 E1 E2
  (try (refine cmark _ ?_; (try dsimp only [List.set_cons_zero, List.set_cons_succ]); (try clear g); intro g))
  refine (C0.out _).mono ?_
  rintro e w1 ⟨rfl, hb⟩
  obtain ⟨g1, rfl⟩ := G.call_ex _ hb
  clear hb
  (try clear g)
  revert g1
  intro g
  go_wp2_with (with_reducible refine G.any_mark _ ?_; (try generalize Array.size (World.heap (G.w _)) = bk); (try dsimp only [List.set_cons_zero, List.set_cons_succ]); (try clear g); intro g)
  refine (CR.out _ _ _ _ _ (G.sl g (by simp) H1.out) (G.sl g (by simp) J1.out)).mono ?_
  rintro e w1 ⟨Z1, z1, R1, Z2, z2, R2, rfl, hz1, hz2, hn1, hn2⟩
  have ho1 := fun k o hk => Nat.le_trans (G.chg _).size (hn1.new k o hk)
  have ho2 := fun k o hk => Nat.le_trans (G.chg _).size (hn2.new k o hk)
  obtain ⟨g1, rfl⟩ := G.new2_ex _ hn1 hn2
  clear hn1 hn2
  (try clear g)
  revert g1
  intro g
  go_wp2_with (with_reducible refine G.any_mark _ ?_; (try generalize Array.size (World.heap (G.w _)) = bk); (try dsimp only [List.set_cons_zero, List.set_cons_succ]); (try clear g); intro g)
  refine bodyPost_ret (v := .tuple #[.agg #[.bool rs, .slice Z1 (limbs rn').length z1, .slice Z2 (limbs rd').length z2], .int .i64 re]) (by simp [results, Tryz.results40, go_sem]) rfl ?_
  exact ⟨Z1, z1, R1, Z2, z2, R2, rfl, hz1, hz2, G.pass _ (by simp) ho1, G.pass _ (by simp) ho2⟩
set_option maxRecDepth 20000 in
set_option maxHeartbeats 4000000 in
theorem floor1_any (b cap : Nat) (s : Bool) (A B : Option Addr) (c k n d : Nat) (w : World) (f1 : FrAt w b 0 s A (limbs n).length c B (limbs d).length k) (hcap : 1 ≤ cap) (h1 : SlW w A c (limbs n)) (j1 : SlW w B k (limbs d)) (hT : Tab w) (l1 : (limbs n).length ≤ 10000000) (m1 : (limbs d).length ≤ 10000000) (z1 : d ≠ 0) :
    Calls Tryz.prog 78 #[.slice (some ⟨b, 0, none⟩) 1 cap] w (RPE (outP (s && decide (flq s n d ≠ 0)) (flq s n d) 1) w) := by
  refine calls_b fun g => ?_
  have C0 := Lib.hid (fun w a b => floor_any s A B c k n d w a b (by omega) (by omega) z1)
  have CR := Lib.hid (fun A B c k w h1 h2 => result_any (s && decide (flq s n d ≠ 0)) A B c k (flq s n d) 1 w h1 h2)
  generalize flq s n d = Q at *
  generalize (s && decide (Q ≠ 0)) = t at *
  have HT := Lib.hid hT
  have E0 := fun (M : List Blk) (g : G w [] M [heapOf w]) => G.old g (List.mem_cons_self ..) f1.c0
  have E1 := fun (M : List Blk) (g : G w [] M [heapOf w]) => G.old g (List.mem_cons_self ..) f1.c1
  have E2 := fun (M : List Blk) (g : G w [] M [heapOf w]) => G.old g (List.mem_cons_self ..) f1.c2
  have H1 := Lib.hid h1
  have J1 := Lib.hid j1
  clear hT f1 z1 h1 j1
  generalize (limbs n).length = ln at *
  generalize (limbs d).length = ld at *
  generalize outP t Q 1 = r at *
  obtain ⟨rs, rn', rd', re⟩ := r
  unfold RPE at CR ⊢
  dsimp only at CR ⊢
  have hcap2 : (1 : Int) ≤ (cap : Int) := by omega
  go_enter Tryz.func78, Tryz.ntmps78
  go_wp2_with (with_reducible refine G.any_mark _ ?_; (try generalize Array.size (World.heap (G.w _)) = bk); (try dsimp only [List.set_cons_zero, List.set_cons_succ]); (try clear g); intro g)
  clear E0 E1 E2
  (try (refine cmark _ ?_; (try dsimp only [List.set_cons_zero, List.set_cons_succ]); (try clear g); intro g))
  refine (C0.out _ (G.sl g (by simp) H1.out) (G.sl g (by simp) J1.out)).mono ?_
  rintro e w1 ⟨Y1, y1, Q1, Y2, y2, Q2, rfl, hy1, hy2, hn1, hn2⟩
  obtain ⟨g1, rfl⟩ := G.new2_ex _ hn1 hn2
  clear hn1 hn2
  (try clear g)
  revert g1
  intro g
  go_wp2_with (with_reducible refine G.any_mark _ ?_; (try generalize Array.size (World.heap (G.w _)) = bk); (try dsimp only [List.set_cons_zero, List.set_cons_succ]); (try clear g); intro g)
  refine (CR.out _ _ _ _ _ (G.sl g (by simp) hy1) (G.sl g (by simp) hy2)).mono ?_
  rintro e w1 ⟨Z1, z1, R1, Z2, z2, R2, rfl, hz1, hz2, hn1, hn2⟩
  have ho1 := fun k o hk => Nat.le_trans (G.chg _).size (hn1.new k o hk)
  have ho2 := fun k o hk => Nat.le_trans (G.chg _).size (hn2.new k o hk)
  obtain ⟨g1, rfl⟩ := G.new2_ex _ hn1 hn2
  clear hn1 hn2
  (try clear g)
  revert g1
  intro g
  go_wp2_with (with_reducible refine G.any_mark _ ?_; (try generalize Array.size (World.heap (G.w _)) = bk); (try dsimp only [List.set_cons_zero, List.set_cons_succ]); (try clear g); intro g)
  refine bodyPost_ret (v := .tuple #[.agg #[.bool rs, .slice Z1 (limbs rn').length z1, .slice Z2 (limbs rd').length z2], .int .i64 re]) (by simp [results, Tryz.results78, go_sem]) rfl ?_
  exact ⟨Z1, z1, R1, Z2, z2, R2, rfl, hz1, hz2, G.pass _ (by simp) ho1, G.pass _ (by simp) ho2⟩
set_option maxRecDepth 20000 in
set_option maxHeartbeats 4000000 in
theorem round1_any (b cap : Nat) (s : Bool) (A B : Option Addr) (c k n d : Nat) (w : World) (f1 : FrAt w b 0 s A (limbs n).length c B (limbs d).length k) (hcap : 1 ≤ cap) (h1 : SlW w A c (limbs n)) (j1 : SlW w B k (limbs d)) (hT : Tab w) (l1 : (limbs n).length ≤ 10000000) (m1 : (limbs d).length ≤ 10000000) (z1 : d ≠ 0) :
    Calls Tryz.prog 80 #[.slice (some ⟨b, 0, none⟩) 1 cap] w (RPE (outP (s && decide (rdq n d ≠ 0)) (rdq n d) 1) w) := by
  refine calls_b fun g => ?_
  have C0 := Lib.hid (fun w a b t => round_any s A B c k n d w a b t l1 m1 z1)
  have CR := Lib.hid (fun A B c k w h1 h2 => result_any (s && decide (rdq n d ≠ 0)) A B c k (rdq n d) 1 w h1 h2)
  generalize rdq n d = Q at *
  generalize (s && decide (Q ≠ 0)) = t at *
  have HT := Lib.hid hT
  have E0 := fun (M : List Blk) (g : G w [] M [heapOf w]) => G.old g (List.mem_cons_self ..) f1.c0
  have E1 := fun (M : List Blk) (g : G w [] M [heapOf w]) => G.old g (List.mem_cons_self ..) f1.c1
  have E2 := fun (M : List Blk) (g : G w [] M [heapOf w]) => G.old g (List.mem_cons_self ..) f1.c2
  have H1 := Lib.hid h1
  have J1 := Lib.hid j1
  clear hT f1 z1 h1 j1
  generalize (limbs n).length = ln at *
  generalize (limbs d).length = ld at *
  generalize outP t Q 1 = r at *
  obtain ⟨rs, rn', rd', re⟩ := r
  unfold RPE at CR ⊢
  dsimp only at CR ⊢
  have hcap2 : (1 : Int) ≤ (cap : Int) := by omega
  go_enter Tryz.func80, Tryz.ntmps80
  go_wp2_with (with_reducible refine G.any_mark _ ?_; (try generalize Array.size (World.heap (G.w _)) = bk); (try dsimp only [List.set_cons_zero, List.set_cons_succ]); (try clear g); intro g)
  clear E0 E1 E2
  (try (refine cmark _ ?_; (try dsimp only [List.set_cons_zero, List.set_cons_succ]); (try clear g); intro g))
  refine (C0.out _ (G.sl g (by simp) H1.out) (G.sl g (by simp) J1.out) (G.tab g HT.out)).mono ?_
  rintro e w1 ⟨Y1, y1, Q1, Y2, y2, Q2, rfl, hy1, hy2, hn1, hn2⟩
  obtain ⟨g1, rfl⟩ := G.new2_ex _ hn1 hn2
  clear hn1 hn2
  (try clear g)
  revert g1
  intro g
  go_wp2_with (with_reducible refine G.any_mark _ ?_; (try generalize Array.size (World.heap (G.w _)) = bk); (try dsimp only [List.set_cons_zero, List.set_cons_succ]); (try clear g); intro g)
  refine (CR.out _ _ _ _ _ (G.sl g (by simp) hy1) (G.sl g (by simp) hy2)).mono ?_
  rintro e w1 ⟨Z1, z1, R1, Z2, z2, R2, rfl, hz1, hz2, hn1, hn2⟩
  have ho1 := fun k o hk => Nat.le_trans (G.chg _).size (hn1.new k o hk)
  have ho2 := fun k o hk => Nat.le_trans (G.chg _).size (hn2.new k o hk)
  obtain ⟨g1, rfl⟩ := G.new2_ex _ hn1 hn2
  clear hn1 hn2
  (try clear g)
  revert g1
  intro g
  go_wp2_with (with_reducible refine G.any_mark _ ?_; (try generalize Array.size (World.heap (G.w _)) = bk); (try dsimp only [List.set_cons_zero, List.set_cons_succ]); (try clear g); intro g)
  refine bodyPost_ret (v := .tuple #[.agg #[.bool rs, .slice Z1 (limbs rn').length z1, .slice Z2 (limbs rd').length z2], .int .i64 re]) (by simp [results, Tryz.results80, go_sem]) rfl ?_
  exact ⟨Z1, z1, R1, Z2, z2, R2, rfl, hz1, hz2, G.pass _ (by simp) ho1, G.pass _ (by simp) ho2⟩
end Go.Proofs.YtjdnpkicdmapnaaGreatDoor
