/- Plain facts and contracts of functions of the program, out of walks. Their conditions stand ahead of each. -/
import Derived.Test.YtjdnpkicdmapnaaGreatDoorNm1
import Derived.Test.YtjdnpkicdmapnaaGreatDoorNm15
import Derived.Test.YtjdnpkicdmapnaaGreatDoorNm31
import Derived.Below
import Derived.BigQuiet
import Derived.Deep.Draws
import Derived.Deep.LoopGhost
import Derived.Deep.QuietTactic
import Derived.Deep.RegionHeld3
import Derived.Deep.RegionLaw
import Derived.Defers
import Derived.Laws.BytesString
import Derived.Laws.Cells
import Derived.Laws.CopyOwn
import Derived.Laws.CopyRow
import Derived.Laws.NewBlocks
import Derived.Laws.OwnMore
import Derived.Laws.Pointers
import Derived.Laws.Rows
import Derived.Lib.BitFns
import Derived.Lib.Hide
import Derived.Lib.ItoaNum
import Derived.Lib.TrailingZeros
import Derived.LoopIn
import Derived.LoopNIn
import Derived.Maps.AppendAt
import Derived.OrdersIn
import Derived.OwnWalk
import Derived.OwnWalkIn
import Derived.RangeFuncBound
import Derived.RangeFuncBox
import Derived.RangeFuncCalls
import Derived.RangeFuncLeaves
import Derived.RangeFuncNested
import Derived.RowKit3
import Derived.Shelf.Abstract
import Derived.Shelf.RegionOpen
import Derived.Shelf.Spec.TrailingZeros
import Derived.StillTactics
import Derived.StillTailTactics
import Derived.TacticsInMore
import Derived.Test.YtjdnpkicdmapnaaGreatDoorProg
import Derived.WalkKit
import Derived.WalkLawsBesides
import Derived.WalkMore
import Derived.WalkSpells
set_option linter.unusedVariables false
set_option linter.unusedSimpArgs false
set_option exponentiation.threshold 10000
namespace Go.Proofs.YtjdnpkicdmapnaaGreatDoor
open Go.RowKit GW NL
theorem of_any (s : Bool) (A B : Option Addr) (c k n d : Nat) (w : World) :
    Calls Tryz.prog 59 #[.agg #[.bool s, .slice A n c, .slice B d k]] w fun e w' => e = .returned (.agg #[.bool s, .slice A n c, .slice B d k]) ∧ Below w.heap.size w w' := by
  refine calls_b fun g => ?_
  go_enter Tryz.func59, Tryz.ntmps59
  go_wp2_with (with_reducible refine G.any_mark _ ?_; (try generalize Array.size (World.heap (G.w _)) = bk); (try dsimp only [List.set_cons_zero, List.set_cons_succ]); (try clear g); intro g)
  refine bodyPost_ret (v := .agg #[.bool s, .slice A n c, .slice B d k]) (by simp [results, Tryz.results59, go_sem]) rfl ⟨rfl, G.below _⟩
theorem inverse_any (s : Bool) (A B : Option Addr) (c k n d : Nat) (w : World) :
    Calls Tryz.prog 54 #[.agg #[.bool s, .slice A n c, .slice B d k]] w fun e w' => e = .returned (.agg #[.bool s, .slice B d k, .slice A n c]) ∧ Below w.heap.size w w' := by
  refine calls_b fun g => ?_
  go_enter Tryz.func54, Tryz.ntmps54
  go_wp2_with (with_reducible refine G.any_mark _ ?_; (try generalize Array.size (World.heap (G.w _)) = bk); (try dsimp only [List.set_cons_zero, List.set_cons_succ]); (try clear g); intro g)
  refine bodyPost_ret (v := .agg #[.bool s, .slice B d k, .slice A n c]) (by simp [results, Tryz.results54, go_sem]) rfl ⟨rfl, G.below _⟩
theorem minus_any (s : Bool) (A B : Option Addr) (c k n d : Nat) (w : World) :
    Calls Tryz.prog 41 #[.agg #[.bool s, .slice A n c, .slice B d k]] w fun e w' => e = .returned (.agg #[.bool (!s && decide (0 < n)), .slice A n c, .slice B d k]) ∧ Below w.heap.size w w' := by
  refine calls_b fun g => ?_
  by_cases h : 0 < n
  · have h2 : (0 : Int) < (n : Int) := by omega
    rw [decide_eq_true h, Bool.and_true]
    cases s
    · go_enter Tryz.func41, Tryz.ntmps41
      go_wp2_with (with_reducible refine G.any_mark _ ?_; (try generalize Array.size (World.heap (G.w _)) = bk); (try dsimp only [List.set_cons_zero, List.set_cons_succ]); (try clear g); intro g)
      refine bodyPost_ret (v := .agg #[.bool true, .slice A n c, .slice B d k]) (by simp [results, Tryz.results41, go_sem]) rfl ⟨rfl, G.below _⟩
    · go_enter Tryz.func41, Tryz.ntmps41
      go_wp2_with (with_reducible refine G.any_mark _ ?_; (try generalize Array.size (World.heap (G.w _)) = bk); (try dsimp only [List.set_cons_zero, List.set_cons_succ]); (try clear g); intro g)
      refine bodyPost_ret (v := .agg #[.bool false, .slice A n c, .slice B d k]) (by simp [results, Tryz.results41, go_sem]) rfl ⟨rfl, G.below _⟩
  · obtain rfl : n = 0 := by omega
    rw [decide_eq_false h, Bool.and_false]
    cases s
    · go_enter Tryz.func41, Tryz.ntmps41
      go_wp2_with (with_reducible refine G.any_mark _ ?_; (try generalize Array.size (World.heap (G.w _)) = bk); (try dsimp only [List.set_cons_zero, List.set_cons_succ]); (try clear g); intro g)
      refine bodyPost_ret (v := .agg #[.bool false, .slice A 0 c, .slice B d k]) (by simp [results, Tryz.results41, go_sem]) rfl ⟨rfl, G.below _⟩
    · go_enter Tryz.func41, Tryz.ntmps41
      go_wp2_with (with_reducible refine G.any_mark _ ?_; (try generalize Array.size (World.heap (G.w _)) = bk); (try dsimp only [List.set_cons_zero, List.set_cons_succ]); (try clear g); intro g)
      refine bodyPost_ret (v := .agg #[.bool false, .slice A 0 c, .slice B d k]) (by simp [results, Tryz.results41, go_sem]) rfl ⟨rfl, G.below _⟩
/-- What is returned is a rational number by its parts, with an error; in new memory. -/
def RPE (r : Bool × Nat × Nat × Int) (w : World) (e : Ending) (w' : World) : Prop := ∃ A c F B k H, e = .returned (.tuple #[.agg #[.bool r.1, .slice A (limbs r.2.1).length c, .slice B (limbs r.2.2.1).length k], .int .i64 r.2.2.2]) ∧ F.Sl A c (limbs r.2.1) ∧ H.Sl B k (limbs r.2.2.1) ∧ New w w' F ∧ New w w' H
theorem limbs_256 {v : Nat} : v < 2 ^ 8192 ↔ (limbs v).length ≤ 256 := by
  rw [limbs_len, pow32]
/-- a number, or ErrOver -/
def outP (s : Bool) (n d : Nat) : Bool × Nat × Nat × Int := if n < 2 ^ 8192 ∧ d < 2 ^ 8192 then (s, n, d, 0) else (false, 0, 0, 5)
theorem rpe_err {w0 : World} {M : List Blk} {I : List Frag} (g : G w0 [] M I) (x : Int) : RPE (false, 0, 0, x) w0 (.returned (.tuple #[.agg #[.bool false, .slice none 0 0, .slice none 0 0], .int .i64 x])) g.w :=
  ⟨none, 0, _, none, 0, _, by simp only [limbs_zero]; rfl, by simp only [limbs_zero]; exact Frag.Sl.nil _ _, by simp only [limbs_zero]; exact Frag.Sl.nil _ _, g.none, g.none⟩
set_option maxRecDepth 20000 in
set_option maxHeartbeats 2000000 in
theorem result_any (s : Bool) (A B : Option Addr) (c k n d : Nat) (w : World) (h1 : SlW w A c (limbs n)) (h2 : SlW w B k (limbs d)) :
    Calls Tryz.prog 42 #[.agg #[.bool s, .slice A (limbs n).length c, .slice B (limbs d).length k]] w (RPE (outP s n d) w) := by
  refine calls_b fun g => ?_
  unfold outP
  by_cases hn : n < 2 ^ 8192
  · have hn2 := limbs_256.1 hn
    by_cases hd : d < 2 ^ 8192
    · rw [if_pos ⟨hn, hd⟩]
      have hd2 := limbs_256.1 hd
      have C1 := Lib.hid (fun w h => clone_any A c (limbs n) w h (by omega))
      have C2 := Lib.hid (fun w h => clone_any B k (limbs d) w h (by omega))
      clear hn hd
      have H1 := Lib.hid h1
      have H2 := Lib.hid h2
      generalize hln : (limbs n).length = ln at *
      generalize hld : (limbs d).length = ld at *
      have HLN := Lib.hid hln
      have HLD := Lib.hid hld
      clear hln hld
      unfold RLim at C1 C2
      rw [HLN.out] at C1
      rw [HLD.out] at C2
      cases s
      · go_enter Tryz.func42, Tryz.ntmps42
        go_wp2_with (with_reducible refine G.any_mark _ ?_; (try generalize Array.size (World.heap (G.w _)) = bk); (try dsimp only [List.set_cons_zero, List.set_cons_succ]); (try clear g); intro g)
        go_region_held3 (G.heldN g [false, true]) (simp [G.heldN, HeldN, go_sem]) (first
          | (go_at_call 83; (with_reducible refine (C1.out _ ?_).mono ?_); (· exact G.sl _ (by simp) H1.out); rintro e w1 ⟨X1, x1, P1, rfl, hx1, hn1⟩; have ho1 := fun k o hk => Nat.le_trans (G.chg _).size (hn1.new k o hk); obtain ⟨g1, rfl⟩ := G.new_ex _ hn1; clear hn1; (try clear g); revert g1; intro g)
          | (go_at_call 83; (with_reducible refine (C2.out _ ?_).mono ?_); (· exact G.sl _ (by simp) H2.out); rintro e w1 ⟨X2, x2, P2, rfl, hx2, hn2⟩; have ho2 := fun k o hk => Nat.le_trans (G.chg _).size (hn2.new k o hk); obtain ⟨g1, rfl⟩ := G.new_ex _ hn2; clear hn2; (try clear g); revert g1; intro g))
        all_goals go_wp2_with (with_reducible refine G.any_mark _ ?_; (try generalize Array.size (World.heap (G.w _)) = bk); (try dsimp only [List.set_cons_zero, List.set_cons_succ]); (try clear g); intro g)
        all_goals refine bodyPost_ret (v := .tuple #[.agg #[.bool false, .slice X1 ln x1, .slice X2 ld x2], .int .i64 0]) (by simp [results, Tryz.results42, go_sem]) rfl ?_
        all_goals exact ⟨X1, x1, P1, X2, x2, P2, by rw [HLN.out, HLD.out], hx1, hx2, G.pass _ (by simp) ho1, G.pass _ (by simp) ho2⟩
      · go_enter Tryz.func42, Tryz.ntmps42
        go_wp2_with (with_reducible refine G.any_mark _ ?_; (try generalize Array.size (World.heap (G.w _)) = bk); (try dsimp only [List.set_cons_zero, List.set_cons_succ]); (try clear g); intro g)
        go_region_held3 (G.heldN g [false, true]) (simp [G.heldN, HeldN, go_sem]) (first
          | (go_at_call 83; (with_reducible refine (C1.out _ ?_).mono ?_); (· exact G.sl _ (by simp) H1.out); rintro e w1 ⟨X1, x1, P1, rfl, hx1, hn1⟩; have ho1 := fun k o hk => Nat.le_trans (G.chg _).size (hn1.new k o hk); obtain ⟨g1, rfl⟩ := G.new_ex _ hn1; clear hn1; (try clear g); revert g1; intro g)
          | (go_at_call 83; (with_reducible refine (C2.out _ ?_).mono ?_); (· exact G.sl _ (by simp) H2.out); rintro e w1 ⟨X2, x2, P2, rfl, hx2, hn2⟩; have ho2 := fun k o hk => Nat.le_trans (G.chg _).size (hn2.new k o hk); obtain ⟨g1, rfl⟩ := G.new_ex _ hn2; clear hn2; (try clear g); revert g1; intro g))
        all_goals go_wp2_with (with_reducible refine G.any_mark _ ?_; (try generalize Array.size (World.heap (G.w _)) = bk); (try dsimp only [List.set_cons_zero, List.set_cons_succ]); (try clear g); intro g)
        all_goals refine bodyPost_ret (v := .tuple #[.agg #[.bool true, .slice X1 ln x1, .slice X2 ld x2], .int .i64 0]) (by simp [results, Tryz.results42, go_sem]) rfl ?_
        all_goals exact ⟨X1, x1, P1, X2, x2, P2, by rw [HLN.out, HLD.out], hx1, hx2, G.pass _ (by simp) ho1, G.pass _ (by simp) ho2⟩
    · rw [if_neg (fun h => hd h.2)]
      have hn3 : ¬ (256 : Int) < ((limbs n).length : Int) := by omega
      have hd3 : (256 : Int) < ((limbs d).length : Int) := by
        rcases Nat.lt_or_ge 256 (limbs d).length with h | h
        · omega
        · exact absurd (limbs_256.2 h) hd
      clear hn hd hn2 h1 h2
      generalize (limbs n).length = ln at *
      generalize (limbs d).length = ld at *
      go_enter Tryz.func42, Tryz.ntmps42
      go_wp2_with (with_reducible refine G.any_mark _ ?_; (try generalize Array.size (World.heap (G.w _)) = bk); (try dsimp only [List.set_cons_zero, List.set_cons_succ]); (try clear g); intro g)
      refine bodyPost_ret (v := .tuple #[.agg #[.bool false, .slice none 0 0, .slice none 0 0], .int .i64 5]) (by simp [results, Tryz.results42, go_sem]) rfl (rpe_err _ 5)
  · rw [if_neg (fun h => hn h.1)]
    have hn3 : (256 : Int) < ((limbs n).length : Int) := by
      rcases Nat.lt_or_ge 256 (limbs n).length with h | h
      · omega
      · exact absurd (limbs_256.2 h) hn
    clear hn h1 h2
    generalize (limbs n).length = ln at *
    generalize (limbs d).length = ld at *
    go_enter Tryz.func42, Tryz.ntmps42
    go_wp2_with (with_reducible refine G.any_mark _ ?_; (try generalize Array.size (World.heap (G.w _)) = bk); (try dsimp only [List.set_cons_zero, List.set_cons_succ]); (try clear g); intro g)
    refine bodyPost_ret (v := .tuple #[.agg #[.bool false, .slice none 0 0, .slice none 0 0], .int .i64 5]) (by simp [results, Tryz.results42, go_sem]) rfl (rpe_err _ 5)
end Go.Proofs.YtjdnpkicdmapnaaGreatDoor
namespace Go.Proofs.YtjdnpkicdmapnaaGreatDoor
open Go.RowKit GW NL
/-- the error of a rational number's parts -/
def rchk (s : Bool) (ln ld : List Nat) : Int := if chk ln ≠ 0 then chk ln else if chk ld ≠ 0 then chk ld else if val ld = 0 then 6 else if (s = true ∧ val ln = 0) ∨ Nat.gcd (val ln) (val ld) ≠ 1 then 3 else 0
theorem chk_pos (l : List Nat) : chk l = 0 ∨ chk l = 3 ∨ chk l = 4 := by unfold chk; split; simp; split <;> simp
set_option maxRecDepth 20000 in
set_option maxHeartbeats 4000000 in
theorem rcheck (s : Bool) (A B : Option Addr) (c k : Nat) (ln ld : List Nat) (w : World) (h1 : SlW w A c ln) (h2 : SlW w B k ld) (hT : Tab w) :
    Calls Tryz.prog 22 #[.agg #[.bool s, .slice A ln.length c, .slice B ld.length k]] w fun e w' => e = .returned (.int .i64 (rchk s ln ld)) ∧ Below w.heap.size w w' := by
  refine calls_b fun g => ?_
  have CK1 := Lib.hid (fun w h => check_any A c ln w h)
  have CK2 := Lib.hid (fun w h => check_any B k ld w h)
  have HT := Lib.hid hT
  have P1 := chk_pos ln
  have P2 := chk_pos ld
  have K1 := Lib.hid (fun h => chk_ok h1.ok h)
  have K2 := Lib.hid (fun h => chk_ok h2.ok h)
  obtain ⟨x1, hx1⟩ : ∃ x, chk ln = x := ⟨_, rfl⟩
  obtain ⟨x2, hx2⟩ : ∃ x, chk ld = x := ⟨_, rfl⟩
  rw [hx1] at CK1 P1 K1
  rw [hx2] at CK2 P2 K2
  have HX1 := Lib.hid hx1
  have HX2 := Lib.hid hx2
  have H1 := Lib.hid h1
  have H2 := Lib.hid h2
  clear hT hx1 hx2 h1 h2
  obtain ⟨n1, hn1⟩ : ∃ n, ln.length = n := ⟨_, rfl⟩
  obtain ⟨n2, hn2⟩ : ∃ n, ld.length = n := ⟨_, rfl⟩
  rw [hn1] at CK1 ⊢
  rw [hn2] at CK2 ⊢
  have HN1 := Lib.hid hn1
  have HN2 := Lib.hid hn2
  clear hn1 hn2
  go_enter Tryz.func22, Tryz.ntmps22
  go_wp2_with (with_reducible refine G.any_mark _ ?_; (try generalize Array.size (World.heap (G.w _)) = bk); (try dsimp only [List.set_cons_zero, List.set_cons_succ]); (try clear g); intro g)
  obtain ⟨lb, rfl⟩ : ∃ lb, lb = bk := ⟨_, rfl⟩
  obtain ⟨xb, rfl⟩ : ∃ xb, xb = bk := ⟨_, rfl⟩
  go_loopg [13] 2 (fun gk s13 wr => ((gk = 2 ∧ s13 = .int .i64 0) ∨ (gk = 1 ∧ s13 = .int .i64 1 ∧ x1 = 0) ∨ (gk = 0 ∧ s13 = .int .i64 2 ∧ x1 = 0 ∧ x2 = 0)) ∧ ∃ g : G w [] [(lb, 23, [.slice A n1 c, .slice B n2 k]), (xb, 25, [.bool s, .slice A n1 c, .slice B n2 k])] [heapOf w], wr = g.w)
  case atStart => exact ⟨.inl ⟨rfl, rfl⟩, g, rfl⟩
  case round =>
    clear g
    obtain ⟨hst, g, rfl⟩ := hrel
    rcases hst with ⟨rfl, rfl⟩ | ⟨rfl, rfl, rfl⟩ | ⟨rfl, rfl, rfl, rfl⟩
    · go_wp2_with (with_reducible refine G.any_mark _ ?_; (try generalize Array.size (World.heap (G.w _)) = bk); (try dsimp only [List.set_cons_zero, List.set_cons_succ]); (try clear g); intro g)
      refine (CK1.out _ (G.sl g (by simp) H1.out)).mono ?_
      rintro e w1 ⟨rfl, hb⟩
      obtain ⟨g1, rfl⟩ := G.call_ex _ hb
      clear hb
      (try clear g)
      revert g1
      intro g
      rcases P1 with rfl | rfl | rfl
      · go_wp2_with (with_reducible refine G.any_mark _ ?_; (try generalize Array.size (World.heap (G.w _)) = bk); (try dsimp only [List.set_cons_zero, List.set_cons_succ]); (try clear g); intro g)
        go_roundg 1
        case measure => omega
        case rel => exact ⟨by simp, g, rfl⟩
      all_goals go_wp2_with (with_reducible refine G.any_mark _ ?_; (try generalize Array.size (World.heap (G.w _)) = bk); (try dsimp only [List.set_cons_zero, List.set_cons_succ]); (try clear g); intro g)
      all_goals go_ret
      all_goals exact ⟨by unfold rchk; rw [HX1.out, if_pos (by decide)]; rfl, g.below⟩
    · go_wp2_with (with_reducible refine G.any_mark _ ?_; (try generalize Array.size (World.heap (G.w _)) = bk); (try dsimp only [List.set_cons_zero, List.set_cons_succ]); (try clear g); intro g)
      refine (CK2.out _ (G.sl g (by simp) H2.out)).mono ?_
      rintro e w1 ⟨rfl, hb⟩
      obtain ⟨g1, rfl⟩ := G.call_ex _ hb
      clear hb
      (try clear g)
      revert g1
      intro g
      rcases P2 with rfl | rfl | rfl
      · go_wp2_with (with_reducible refine G.any_mark _ ?_; (try generalize Array.size (World.heap (G.w _)) = bk); (try dsimp only [List.set_cons_zero, List.set_cons_succ]); (try clear g); intro g)
        go_roundg 0
        case measure => omega
        case rel => exact ⟨by simp, g, rfl⟩
      all_goals go_wp2_with (with_reducible refine G.any_mark _ ?_; (try generalize Array.size (World.heap (G.w _)) = bk); (try dsimp only [List.set_cons_zero, List.set_cons_succ]); (try clear g); intro g)
      all_goals go_ret
      all_goals exact ⟨by unfold rchk; rw [HX1.out, HX2.out, if_neg (by decide), if_pos (by decide)]; rfl, g.below⟩
    · obtain ⟨e1, b1, b2⟩ := K1.out rfl
      obtain ⟨e2, b3, b4⟩ := K2.out rfl
      have hrc : rchk s ln ld = if val ld = 0 then 6 else if (s = true ∧ val ln = 0) ∨ Nat.gcd (val ln) (val ld) ≠ 1 then 3 else 0 := by
        unfold rchk
        rw [HX1.out, HX2.out, if_neg (by decide), if_neg (by decide)]
      obtain ⟨v1, hv1⟩ : ∃ v, val ln = v := ⟨_, rfl⟩
      obtain ⟨v2, hv2⟩ : ∃ v, val ld = v := ⟨_, rfl⟩
      rw [hv1, hv2] at hrc
      rw [hv1] at e1
      rw [hv2] at e2
      have s1 := H1.out
      have s2 := H2.out
      rw [e1] at s1
      rw [e2] at s2
      have hl1 : (limbs v1).length = n1 := by rw [← e1]; exact HN1.out
      have hl2 : (limbs v2).length = n2 := by rw [← e2]; exact HN2.out
      rw [e1] at b2
      rw [e2] at b4
      have HRC := Lib.hid hrc
      have E1 := Lib.hid e1
      have E2 := Lib.hid e2
      have S1 := Lib.hid s1
      have S2 := Lib.hid s2
      have CO := Lib.hid (fun w => of_any s A B c k n1 n2 w)
      have CG := Lib.hid (fun F w hF h1 h2 hT => (by
        have := lgcd_any F A B c k v1 v2 w hF h1 h2 hT (by omega) (by omega)
        rw [hl1, hl2] at this
        exact this : Calls Tryz.prog 60 #[.slice A n1 c, .slice B n2 k] w (RAli F (Nat.gcd v1 v2) w)))
      have CU := Lib.hid (fun X x w h => lunit_any X x (Nat.gcd v1 v2) w h)
      have z1 : (v1 = 0 ∧ n1 = 0) ∨ (v1 ≠ 0 ∧ 0 < n1) := by
        rw [← hl1]
        by_cases h : v1 = 0
        · left; subst h; exact ⟨rfl, by rw [limbs_zero]; rfl⟩
        · right; exact ⟨h, (limbs_ne h).2⟩
      have z2 : (v2 = 0 ∧ n2 = 0) ∨ (v2 ≠ 0 ∧ 0 < n2) := by
        rw [← hl2]
        by_cases h : v2 = 0
        · left; subst h; exact ⟨rfl, by rw [limbs_zero]; rfl⟩
        · right; exact ⟨h, (limbs_ne h).2⟩
      clear hrc e1 e2 s1 s2 hv1 hv2 b1 b2 b3 b4 hl1 hl2 P1 P2 K1 K2 CK1 CK2
      go_wp2_with (with_reducible refine G.any_mark _ ?_; (try generalize Array.size (World.heap (G.w _)) = bk); (try dsimp only [List.set_cons_zero, List.set_cons_succ]); (try clear g); intro g)
      refine (CO.out _).mono ?_
      rintro e w1 ⟨rfl, hb⟩
      obtain ⟨g1, rfl⟩ := G.call_ex _ hb
      clear hb
      (try clear g)
      revert g1
      intro g
      rcases z2 with ⟨k1, k2⟩ | ⟨k1, k2⟩
      · have hfin := HRC.out
        rw [if_pos k1] at hfin
        have HF := Lib.hid hfin
        clear hfin
        subst k2
        go_wp2_with (with_reducible refine G.any_mark _ ?_; (try generalize Array.size (World.heap (G.w _)) = bk); (try dsimp only [List.set_cons_zero, List.set_cons_succ]); (try clear g); intro g)
        go_ret
        exact ⟨by rw [HF.out]; rfl, G.below _⟩
      · have k3 : ((n2 : Int) == 0) = false := by rw [beq_eq_false_iff_ne]; omega
        have hfin := HRC.out
        rw [if_neg k1] at hfin
        have HF := Lib.hid hfin
        clear hfin
        cases s
        · go_wp2_with (with_reducible refine G.any_mark _ ?_; (try generalize Array.size (World.heap (G.w _)) = bk); (try dsimp only [List.set_cons_zero, List.set_cons_succ]); (try clear g); intro g)
          (try (refine cmark _ ?_; (try dsimp only [List.set_cons_zero, List.set_cons_succ]); (try clear g); intro g))
          refine (CG.out (g.fr (heapOf w)) _ (g.fr_sub (by simp)) (g.fr_sl (by simp) (Frag.over_self _ _) S1.out) (g.fr_sl (by simp) (Frag.over_self _ _) S2.out) (G.tab g HT.out)).mono ?_
          rintro e w1 ⟨Ag, cg, Fg, rfl, hsg, hng⟩
          obtain ⟨g1, rfl, hov⟩ := g.newor_ex hng
          clear hng
          (try clear g)
          revert g1
          intro g
          go_wp2_with (with_reducible refine G.any_mark _ ?_; (try generalize Array.size (World.heap (G.w _)) = bk); (try dsimp only [List.set_cons_zero, List.set_cons_succ]); (try clear g); intro g)
          refine (CU.out Ag cg _ (G.sl g (by simp) hsg)).mono ?_
          rintro e w1 ⟨rfl, rfl⟩
          by_cases hq : Nat.gcd v1 v2 = 1
          · rw [decide_eq_true hq]
            have HQ := Lib.hid hq
            clear hq
            go_wp2_with (with_reducible refine G.any_mark _ ?_; (try generalize Array.size (World.heap (G.w _)) = bk); (try dsimp only [List.set_cons_zero, List.set_cons_succ]); (try clear g); intro g)
            go_ret
            exact ⟨by rw [HF.out, if_neg (fun h => h.elim (fun h => by cases h.1) (fun h => h HQ.out))]; rfl, G.below _⟩
          · rw [decide_eq_false hq]
            have HQ := Lib.hid hq
            clear hq
            go_wp2_with (with_reducible refine G.any_mark _ ?_; (try generalize Array.size (World.heap (G.w _)) = bk); (try dsimp only [List.set_cons_zero, List.set_cons_succ]); (try clear g); intro g)
            go_ret
            exact ⟨by rw [HF.out, if_pos (.inr HQ.out)]; rfl, G.below _⟩
        · rcases z1 with ⟨k4, k5⟩ | ⟨k4, k5⟩
          · have HK4 := Lib.hid k4
            clear k4
            subst k5
            go_wp2_with (with_reducible refine G.any_mark _ ?_; (try generalize Array.size (World.heap (G.w _)) = bk); (try dsimp only [List.set_cons_zero, List.set_cons_succ]); (try clear g); intro g)
            go_ret
            exact ⟨by rw [HF.out, if_pos (.inl ⟨by simp, HK4.out⟩)]; rfl, G.below _⟩
          · have k6 : ((n1 : Int) == 0) = false := by rw [beq_eq_false_iff_ne]; omega
            have HK4 := Lib.hid k4
            clear k4
            go_wp2_with (with_reducible refine G.any_mark _ ?_; (try generalize Array.size (World.heap (G.w _)) = bk); (try dsimp only [List.set_cons_zero, List.set_cons_succ]); (try clear g); intro g)
            (try (refine cmark _ ?_; (try dsimp only [List.set_cons_zero, List.set_cons_succ]); (try clear g); intro g))
            refine (CG.out (g.fr (heapOf w)) _ (g.fr_sub (by simp)) (g.fr_sl (by simp) (Frag.over_self _ _) S1.out) (g.fr_sl (by simp) (Frag.over_self _ _) S2.out) (G.tab g HT.out)).mono ?_
            rintro e w1 ⟨Ag, cg, Fg, rfl, hsg, hng⟩
            obtain ⟨g1, rfl, hov⟩ := g.newor_ex hng
            clear hng
            (try clear g)
            revert g1
            intro g
            go_wp2_with (with_reducible refine G.any_mark _ ?_; (try generalize Array.size (World.heap (G.w _)) = bk); (try dsimp only [List.set_cons_zero, List.set_cons_succ]); (try clear g); intro g)
            refine (CU.out Ag cg _ (G.sl g (by simp) hsg)).mono ?_
            rintro e w1 ⟨rfl, rfl⟩
            by_cases hq : Nat.gcd v1 v2 = 1
            · rw [decide_eq_true hq]
              have HQ := Lib.hid hq
              clear hq
              go_wp2_with (with_reducible refine G.any_mark _ ?_; (try generalize Array.size (World.heap (G.w _)) = bk); (try dsimp only [List.set_cons_zero, List.set_cons_succ]); (try clear g); intro g)
              go_ret
              exact ⟨by rw [HF.out, if_neg (fun h => h.elim (fun h => HK4.out h.2) (fun h => h HQ.out))]; rfl, G.below _⟩
            · rw [decide_eq_false hq]
              have HQ := Lib.hid hq
              clear hq
              go_wp2_with (with_reducible refine G.any_mark _ ?_; (try generalize Array.size (World.heap (G.w _)) = bk); (try dsimp only [List.set_cons_zero, List.set_cons_succ]); (try clear g); intro g)
              go_ret
              exact ⟨by rw [HF.out, if_pos (.inr HQ.out)]; rfl, G.below _⟩
end Go.Proofs.YtjdnpkicdmapnaaGreatDoor
namespace Go.Proofs.YtjdnpkicdmapnaaGreatDoor
open Go.RowKit GW NL
theorem G.old {w0 : World} {X : List Nat} {M : List Blk} {I : List Frag} (g : G w0 X M I) (hI : heapOf w0 ∈ I) {b o : Nat} {v : Value} (h : w0.cell? ⟨b, o, none⟩ = some v) : g.w.cell? ⟨b, o, none⟩ = some v := by
  refine g.frag_cell hI ?_
  unfold World.cell? at h
  unfold Frag.cell
  exact h
/-- the parts of a rational number, or ErrOver -/
def outX (x : Rat) : Bool × Nat × Nat × Int := outP (rneg x) (rn x) x.den
/-- from cell o on a fraction lies in block b -/
structure FrAt (w : World) (b o : Nat) (s : Bool) (A : Option Addr) (n c : Nat) (B : Option Addr) (d k : Nat) : Prop where
  c0 : w.cell? ⟨b, o, none⟩ = some (.bool s)
  c1 : w.cell? ⟨b, o + 1, none⟩ = some (.slice A n c)
  c2 : w.cell? ⟨b, o + 2, none⟩ = some (.slice B d k)
theorem frac_minus (s : Bool) (n d : Nat) : frac (!s && decide (0 < (limbs n).length)) n d = -frac s n d := by
  by_cases h : n = 0
  · subst h; rw [frac_zero, frac_zero]; rfl
  · rw [decide_eq_true (limbs_ne h).2, Bool.and_true, frac_neg]
set_option maxRecDepth 20000 in
set_option maxHeartbeats 4000000 in
theorem add1_any (b cap : Nat) (s1 s2 : Bool) (A1 B1 A2 B2 : Option Addr) (c1 k1 c2 k2 n1 d1 n2 d2 : Nat) (w : World) (f1 : FrAt w b 0 s1 A1 (limbs n1).length c1 B1 (limbs d1).length k1) (f2 : FrAt w b 3 s2 A2 (limbs n2).length c2 B2 (limbs d2).length k2) (hcap : 2 ≤ cap) (h1 : SlW w A1 c1 (limbs n1)) (j1 : SlW w B1 k1 (limbs d1)) (h2 : SlW w A2 c2 (limbs n2)) (j2 : SlW w B2 k2 (limbs d2)) (hT : Tab w)
    (l1 : (limbs n1).length ≤ 10000000) (m1 : (limbs d1).length ≤ 10000000) (l2 : (limbs n2).length ≤ 10000000) (m2 : (limbs d2).length ≤ 10000000) (z1 : d1 ≠ 0) (z2 : d2 ≠ 0) :
    Calls Tryz.prog 44 #[.slice (some ⟨b, 0, none⟩) 2 cap] w (RPE (outX (frac s1 n1 d1 + frac s2 n2 d2)) w) := by
  refine calls_b fun g => ?_
  have C1 := Lib.hid (fun w a b c d t => fplus_any s1 s2 A1 B1 A2 B2 c1 k1 c2 k2 n1 d1 n2 d2 w a b c d t l1 m1 l2 m2 z1 z2)
  have HT := Lib.hid hT
  have E0 := Lib.hid f1.c0
  have E1 := Lib.hid f1.c1
  have E2 := Lib.hid f1.c2
  have E3 := Lib.hid f2.c0
  have E4 := Lib.hid f2.c1
  have E5 := Lib.hid f2.c2
  clear hT f1 f2 z1 z2
  generalize (limbs n1).length = ln1 at *
  generalize (limbs d1).length = ld1 at *
  generalize (limbs n2).length = ln2 at *
  generalize (limbs d2).length = ld2 at *
  generalize frac s1 n1 d1 + frac s2 n2 d2 = x at *
  have CR := Lib.hid (fun A B c k w h1 h2 => result_any (rneg x) A B c k (rn x) x.den w h1 h2)
  unfold outX
  generalize outP (rneg x) (rn x) x.den = r at *
  obtain ⟨rs, rn', rd', re⟩ := r
  unfold RPE at CR ⊢
  dsimp only at CR ⊢
  have hcap2 : (2 : Int) ≤ (cap : Int) := by omega

  go_enter Tryz.func44, Tryz.ntmps44
  go_wp2_with (with_reducible refine G.any_mark _ ?_; (try generalize Array.size (World.heap (G.w _)) = bk); (try dsimp only [List.set_cons_zero, List.set_cons_succ]); (try clear g); intro g)
  go_region_held3 (fun w' => w'.cell? ⟨b, 0, none⟩ = some (.bool s1) ∧ w'.cell? ⟨b, 1, none⟩ = some (.slice A1 ln1 c1) ∧ w'.cell? ⟨b, 2, none⟩ = some (.slice B1 ld1 k1) ∧ w'.cell? ⟨b, 3, none⟩ = some (.bool s2) ∧ w'.cell? ⟨b, 4, none⟩ = some (.slice A2 ln2 c2) ∧ w'.cell? ⟨b, 5, none⟩ = some (.slice B2 ld2 k2)) (((try simp only [G.drew_eq, G.drewN_eq]); exact ⟨G.old _ (by simp) E0.out, G.old _ (by simp) E1.out, G.old _ (by simp) E2.out, G.old _ (by simp) E3.out, G.old _ (by simp) E4.out, G.old _ (by simp) E5.out⟩)) (first
    | (go_at_call 45; (with_reducible refine (C1.out _ ?_ ?_ ?_ ?_ ?_).mono ?_); (· exact G.sl _ (by simp) h1); (· exact G.sl _ (by simp) j1); (· exact G.sl _ (by simp) h2); (· exact G.sl _ (by simp) j2);  (· exact G.tab _ HT.out); rintro e w1 ⟨Y1, y1, Q1, Y2, y2, Q2, rfl, hy1, hy2, hn1, hn2⟩; obtain ⟨g1, rfl⟩ := G.new2_ex _ hn1 hn2; clear hn1 hn2; (try clear g); revert g1; intro g)
    | (go_at_call 42; (with_reducible refine (CR.out _ _ _ _ _ ?_ ?_).mono ?_); (· exact G.sl _ (by simp) hy1); (· exact G.sl _ (by simp) hy2); rintro e w1 ⟨Z1, z1, R1, Z2, z2, R2, rfl, hz1, hz2, hn1, hn2⟩; have ho1 := fun k o hk => Nat.le_trans (G.chg _).size (hn1.new k o hk); have ho2 := fun k o hk => Nat.le_trans (G.chg _).size (hn2.new k o hk); obtain ⟨g1, rfl⟩ := G.new2_ex _ hn1 hn2; clear hn1 hn2; (try clear g); revert g1; intro g))
  all_goals go_wp2_with (with_reducible refine G.any_mark _ ?_; (try generalize Array.size (World.heap (G.w _)) = bk); (try dsimp only [List.set_cons_zero, List.set_cons_succ]); (try clear g); intro g)
  all_goals refine bodyPost_ret (v := .tuple #[.agg #[.bool rs, .slice Z1 (limbs rn').length z1, .slice Z2 (limbs rd').length z2], .int .i64 re]) (by simp [results, Tryz.results44, go_sem]) rfl ?_
  all_goals exact ⟨Z1, z1, R1, Z2, z2, R2, rfl, hz1, hz2, G.pass _ (by simp) ho1, G.pass _ (by simp) ho2⟩
set_option maxRecDepth 20000 in
set_option maxHeartbeats 4000000 in
theorem mul1_any (b cap : Nat) (s1 s2 : Bool) (A1 B1 A2 B2 : Option Addr) (c1 k1 c2 k2 n1 d1 n2 d2 : Nat) (w : World) (f1 : FrAt w b 0 s1 A1 (limbs n1).length c1 B1 (limbs d1).length k1) (f2 : FrAt w b 3 s2 A2 (limbs n2).length c2 B2 (limbs d2).length k2) (hcap : 2 ≤ cap) (h1 : SlW w A1 c1 (limbs n1)) (j1 : SlW w B1 k1 (limbs d1)) (h2 : SlW w A2 c2 (limbs n2)) (j2 : SlW w B2 k2 (limbs d2)) (hT : Tab w)
    (l1 : (limbs n1).length ≤ 10000000) (m1 : (limbs d1).length ≤ 10000000) (l2 : (limbs n2).length ≤ 10000000) (m2 : (limbs d2).length ≤ 10000000) (z1 : d1 ≠ 0) (z2 : d2 ≠ 0) :
    Calls Tryz.prog 50 #[.slice (some ⟨b, 0, none⟩) 2 cap] w (RPE (outX (frac s1 n1 d1 * frac s2 n2 d2)) w) := by
  refine calls_b fun g => ?_
  have C1 := Lib.hid (fun w a b c d t => ftimes_any s1 s2 A1 B1 A2 B2 c1 k1 c2 k2 n1 d1 n2 d2 w a b c d t l1 m1 l2 m2 z1 z2)
  have HT := Lib.hid hT
  have E0 := Lib.hid f1.c0
  have E1 := Lib.hid f1.c1
  have E2 := Lib.hid f1.c2
  have E3 := Lib.hid f2.c0
  have E4 := Lib.hid f2.c1
  have E5 := Lib.hid f2.c2
  clear hT f1 f2 z1 z2
  generalize (limbs n1).length = ln1 at *
  generalize (limbs d1).length = ld1 at *
  generalize (limbs n2).length = ln2 at *
  generalize (limbs d2).length = ld2 at *
  generalize frac s1 n1 d1 * frac s2 n2 d2 = x at *
  have CR := Lib.hid (fun A B c k w h1 h2 => result_any (rneg x) A B c k (rn x) x.den w h1 h2)
  unfold outX
  generalize outP (rneg x) (rn x) x.den = r at *
  obtain ⟨rs, rn', rd', re⟩ := r
  unfold RPE at CR ⊢
  dsimp only at CR ⊢
  have hcap2 : (2 : Int) ≤ (cap : Int) := by omega

  go_enter Tryz.func50, Tryz.ntmps50
  go_wp2_with (with_reducible refine G.any_mark _ ?_; (try generalize Array.size (World.heap (G.w _)) = bk); (try dsimp only [List.set_cons_zero, List.set_cons_succ]); (try clear g); intro g)
  go_region_held3 (fun w' => w'.cell? ⟨b, 0, none⟩ = some (.bool s1) ∧ w'.cell? ⟨b, 1, none⟩ = some (.slice A1 ln1 c1) ∧ w'.cell? ⟨b, 2, none⟩ = some (.slice B1 ld1 k1) ∧ w'.cell? ⟨b, 3, none⟩ = some (.bool s2) ∧ w'.cell? ⟨b, 4, none⟩ = some (.slice A2 ln2 c2) ∧ w'.cell? ⟨b, 5, none⟩ = some (.slice B2 ld2 k2)) (((try simp only [G.drew_eq, G.drewN_eq]); exact ⟨G.old _ (by simp) E0.out, G.old _ (by simp) E1.out, G.old _ (by simp) E2.out, G.old _ (by simp) E3.out, G.old _ (by simp) E4.out, G.old _ (by simp) E5.out⟩)) (first
    | (go_at_call 51; (with_reducible refine (C1.out _ ?_ ?_ ?_ ?_ ?_).mono ?_); (· exact G.sl _ (by simp) h1); (· exact G.sl _ (by simp) j1); (· exact G.sl _ (by simp) h2); (· exact G.sl _ (by simp) j2);  (· exact G.tab _ HT.out); rintro e w1 ⟨Y1, y1, Q1, Y2, y2, Q2, rfl, hy1, hy2, hn1, hn2⟩; obtain ⟨g1, rfl⟩ := G.new2_ex _ hn1 hn2; clear hn1 hn2; (try clear g); revert g1; intro g)
    | (go_at_call 42; (with_reducible refine (CR.out _ _ _ _ _ ?_ ?_).mono ?_); (· exact G.sl _ (by simp) hy1); (· exact G.sl _ (by simp) hy2); rintro e w1 ⟨Z1, z1, R1, Z2, z2, R2, rfl, hz1, hz2, hn1, hn2⟩; have ho1 := fun k o hk => Nat.le_trans (G.chg _).size (hn1.new k o hk); have ho2 := fun k o hk => Nat.le_trans (G.chg _).size (hn2.new k o hk); obtain ⟨g1, rfl⟩ := G.new2_ex _ hn1 hn2; clear hn1 hn2; (try clear g); revert g1; intro g))
  all_goals go_wp2_with (with_reducible refine G.any_mark _ ?_; (try generalize Array.size (World.heap (G.w _)) = bk); (try dsimp only [List.set_cons_zero, List.set_cons_succ]); (try clear g); intro g)
  all_goals refine bodyPost_ret (v := .tuple #[.agg #[.bool rs, .slice Z1 (limbs rn').length z1, .slice Z2 (limbs rd').length z2], .int .i64 re]) (by simp [results, Tryz.results50, go_sem]) rfl ?_
  all_goals exact ⟨Z1, z1, R1, Z2, z2, R2, rfl, hz1, hz2, G.pass _ (by simp) ho1, G.pass _ (by simp) ho2⟩
set_option maxRecDepth 20000 in
set_option maxHeartbeats 4000000 in
theorem sub1_any (b cap : Nat) (s1 s2 : Bool) (A1 B1 A2 B2 : Option Addr) (c1 k1 c2 k2 n1 d1 n2 d2 : Nat) (w : World) (f1 : FrAt w b 0 s1 A1 (limbs n1).length c1 B1 (limbs d1).length k1) (f2 : FrAt w b 3 s2 A2 (limbs n2).length c2 B2 (limbs d2).length k2) (hcap : 2 ≤ cap) (h1 : SlW w A1 c1 (limbs n1)) (j1 : SlW w B1 k1 (limbs d1)) (h2 : SlW w A2 c2 (limbs n2)) (j2 : SlW w B2 k2 (limbs d2)) (hT : Tab w)
    (l1 : (limbs n1).length ≤ 10000000) (m1 : (limbs d1).length ≤ 10000000) (l2 : (limbs n2).length ≤ 10000000) (m2 : (limbs d2).length ≤ 10000000) (z1 : d1 ≠ 0) (z2 : d2 ≠ 0) :
    Calls Tryz.prog 49 #[.slice (some ⟨b, 0, none⟩) 2 cap] w (RPE (outX (frac s1 n1 d1 - frac s2 n2 d2)) w) := by
  refine calls_b fun g => ?_
  rw [Rat.sub_eq_add_neg, ← frac_minus s2 n2 d2]
  have C0 := Lib.hid (fun w => minus_any s2 A2 B2 c2 k2 (limbs n2).length (limbs d2).length w)
  generalize (!s2 && decide (0 < (limbs n2).length)) = t2 at *
  have C1 := Lib.hid (fun w a b c d t => fplus_any s1 t2 A1 B1 A2 B2 c1 k1 c2 k2 n1 d1 n2 d2 w a b c d t l1 m1 l2 m2 z1 z2)
  have HT := Lib.hid hT
  have E0 := Lib.hid f1.c0
  have E1 := Lib.hid f1.c1
  have E2 := Lib.hid f1.c2
  have E3 := Lib.hid f2.c0
  have E4 := Lib.hid f2.c1
  have E5 := Lib.hid f2.c2
  clear hT f1 f2 z1 z2
  generalize (limbs n1).length = ln1 at *
  generalize (limbs d1).length = ld1 at *
  generalize (limbs n2).length = ln2 at *
  generalize (limbs d2).length = ld2 at *
  generalize frac s1 n1 d1 + frac t2 n2 d2 = x at *
  have CR := Lib.hid (fun A B c k w h1 h2 => result_any (rneg x) A B c k (rn x) x.den w h1 h2)
  unfold outX
  generalize outP (rneg x) (rn x) x.den = r at *
  obtain ⟨rs, rn', rd', re⟩ := r
  unfold RPE at CR ⊢
  dsimp only at CR ⊢
  have hcap2 : (2 : Int) ≤ (cap : Int) := by omega

  go_enter Tryz.func49, Tryz.ntmps49
  go_wp2_with (with_reducible refine G.any_mark _ ?_; (try generalize Array.size (World.heap (G.w _)) = bk); (try dsimp only [List.set_cons_zero, List.set_cons_succ]); (try clear g); intro g)
  go_region_held3 (fun w' => w'.cell? ⟨b, 0, none⟩ = some (.bool s1) ∧ w'.cell? ⟨b, 1, none⟩ = some (.slice A1 ln1 c1) ∧ w'.cell? ⟨b, 2, none⟩ = some (.slice B1 ld1 k1) ∧ w'.cell? ⟨b, 3, none⟩ = some (.bool s2) ∧ w'.cell? ⟨b, 4, none⟩ = some (.slice A2 ln2 c2) ∧ w'.cell? ⟨b, 5, none⟩ = some (.slice B2 ld2 k2)) (((try simp only [G.drew_eq, G.drewN_eq]); exact ⟨G.old _ (by simp) E0.out, G.old _ (by simp) E1.out, G.old _ (by simp) E2.out, G.old _ (by simp) E3.out, G.old _ (by simp) E4.out, G.old _ (by simp) E5.out⟩)) (first
    | (go_at_call 41; (with_reducible refine (C0.out _).mono ?_); rintro e w1 ⟨rfl, hb⟩; obtain ⟨g1, rfl⟩ := G.call_ex _ hb; clear hb; (try clear g); revert g1; intro g)
    | (go_at_call 45; (with_reducible refine (C1.out _ ?_ ?_ ?_ ?_ ?_).mono ?_); (· exact G.sl _ (by simp) h1); (· exact G.sl _ (by simp) j1); (· exact G.sl _ (by simp) h2); (· exact G.sl _ (by simp) j2);  (· exact G.tab _ HT.out); rintro e w1 ⟨Y1, y1, Q1, Y2, y2, Q2, rfl, hy1, hy2, hn1, hn2⟩; obtain ⟨g1, rfl⟩ := G.new2_ex _ hn1 hn2; clear hn1 hn2; (try clear g); revert g1; intro g)
    | (go_at_call 42; (with_reducible refine (CR.out _ _ _ _ _ ?_ ?_).mono ?_); (· exact G.sl _ (by simp) hy1); (· exact G.sl _ (by simp) hy2); rintro e w1 ⟨Z1, z1, R1, Z2, z2, R2, rfl, hz1, hz2, hn1, hn2⟩; have ho1 := fun k o hk => Nat.le_trans (G.chg _).size (hn1.new k o hk); have ho2 := fun k o hk => Nat.le_trans (G.chg _).size (hn2.new k o hk); obtain ⟨g1, rfl⟩ := G.new2_ex _ hn1 hn2; clear hn1 hn2; (try clear g); revert g1; intro g))
  all_goals go_wp2_with (with_reducible refine G.any_mark _ ?_; (try generalize Array.size (World.heap (G.w _)) = bk); (try dsimp only [List.set_cons_zero, List.set_cons_succ]); (try clear g); intro g)
  all_goals refine bodyPost_ret (v := .tuple #[.agg #[.bool rs, .slice Z1 (limbs rn').length z1, .slice Z2 (limbs rd').length z2], .int .i64 re]) (by simp [results, Tryz.results49, go_sem]) rfl ?_
  all_goals exact ⟨Z1, z1, R1, Z2, z2, R2, rfl, hz1, hz2, G.pass _ (by simp) ho1, G.pass _ (by simp) ho2⟩
set_option maxRecDepth 20000 in
set_option maxHeartbeats 4000000 in
theorem div1_any (b cap : Nat) (s1 s2 : Bool) (A1 B1 A2 B2 : Option Addr) (c1 k1 c2 k2 n1 d1 n2 d2 : Nat) (w : World) (f1 : FrAt w b 0 s1 A1 (limbs n1).length c1 B1 (limbs d1).length k1) (f2 : FrAt w b 3 s2 A2 (limbs n2).length c2 B2 (limbs d2).length k2) (hcap : 2 ≤ cap) (h1 : SlW w A1 c1 (limbs n1)) (j1 : SlW w B1 k1 (limbs d1)) (h2 : SlW w A2 c2 (limbs n2)) (j2 : SlW w B2 k2 (limbs d2)) (hT : Tab w)
    (l1 : (limbs n1).length ≤ 10000000) (m1 : (limbs d1).length ≤ 10000000) (l2 : (limbs n2).length ≤ 10000000) (m2 : (limbs d2).length ≤ 10000000) (z1 : d1 ≠ 0) (z2 : d2 ≠ 0) (y2 : n2 ≠ 0) :
    Calls Tryz.prog 53 #[.slice (some ⟨b, 0, none⟩) 2 cap] w (RPE (outX (frac s1 n1 d1 / frac s2 n2 d2)) w) := by
  refine calls_b fun g => ?_
  rw [Rat.div_def, frac_inv s2 y2]
  have C0 := Lib.hid (fun w => inverse_any s2 A2 B2 c2 k2 (limbs n2).length (limbs d2).length w)
  have C1 := Lib.hid (fun w a b c d t => ftimes_any s1 s2 A1 B1 B2 A2 c1 k1 k2 c2 n1 d1 d2 n2 w a b c d t l1 m1 m2 l2 z1 y2)
  have hn0 : (((limbs n2).length : Int) == 0) = false := (limbs_ne y2).1
  clear y2
  have HT := Lib.hid hT
  have E0 := Lib.hid f1.c0
  have E1 := Lib.hid f1.c1
  have E2 := Lib.hid f1.c2
  have E3 := Lib.hid f2.c0
  have E4 := Lib.hid f2.c1
  have E5 := Lib.hid f2.c2
  clear hT f1 f2 z1 z2
  generalize (limbs n1).length = ln1 at *
  generalize (limbs d1).length = ld1 at *
  generalize (limbs n2).length = ln2 at *
  generalize (limbs d2).length = ld2 at *
  generalize frac s1 n1 d1 * frac s2 d2 n2 = x at *
  have CR := Lib.hid (fun A B c k w h1 h2 => result_any (rneg x) A B c k (rn x) x.den w h1 h2)
  unfold outX
  generalize outP (rneg x) (rn x) x.den = r at *
  obtain ⟨rs, rn', rd', re⟩ := r
  unfold RPE at CR ⊢
  dsimp only at CR ⊢
  have hcap2 : (2 : Int) ≤ (cap : Int) := by omega

  go_enter Tryz.func53, Tryz.ntmps53
  have E4g := fun (M : List Blk) (g : G w [] M [heapOf w]) => G.old g (List.mem_cons_self ..) E4.out
  go_wp2_with (with_reducible refine G.any_mark _ ?_; (try generalize Array.size (World.heap (G.w _)) = bk); (try dsimp only [List.set_cons_zero, List.set_cons_succ]); (try clear g); intro g)
  clear E4g
  go_region_held3 (fun w' => w'.cell? ⟨b, 0, none⟩ = some (.bool s1) ∧ w'.cell? ⟨b, 1, none⟩ = some (.slice A1 ln1 c1) ∧ w'.cell? ⟨b, 2, none⟩ = some (.slice B1 ld1 k1) ∧ w'.cell? ⟨b, 3, none⟩ = some (.bool s2) ∧ w'.cell? ⟨b, 4, none⟩ = some (.slice A2 ln2 c2) ∧ w'.cell? ⟨b, 5, none⟩ = some (.slice B2 ld2 k2)) (((try simp only [G.drew_eq, G.drewN_eq]); exact ⟨G.old _ (by simp) E0.out, G.old _ (by simp) E1.out, G.old _ (by simp) E2.out, G.old _ (by simp) E3.out, G.old _ (by simp) E4.out, G.old _ (by simp) E5.out⟩)) (first
    | (go_at_call 54; (with_reducible refine (C0.out _).mono ?_); rintro e w1 ⟨rfl, hb⟩; obtain ⟨g1, rfl⟩ := G.call_ex _ hb; clear hb; (try clear g); revert g1; intro g)
    | (go_at_call 51; (with_reducible refine (C1.out _ ?_ ?_ ?_ ?_ ?_).mono ?_); (· exact G.sl _ (by simp) h1); (· exact G.sl _ (by simp) j1); (· exact G.sl _ (by simp) j2); (· exact G.sl _ (by simp) h2);  (· exact G.tab _ HT.out); rintro e w1 ⟨Y1, y1, Q1, Y2, y2, Q2, rfl, hy1, hy2, hn1, hn2⟩; obtain ⟨g1, rfl⟩ := G.new2_ex _ hn1 hn2; clear hn1 hn2; (try clear g); revert g1; intro g)
    | (go_at_call 42; (with_reducible refine (CR.out _ _ _ _ _ ?_ ?_).mono ?_); (· exact G.sl _ (by simp) hy1); (· exact G.sl _ (by simp) hy2); rintro e w1 ⟨Z1, z1, R1, Z2, z2, R2, rfl, hz1, hz2, hn1, hn2⟩; have ho1 := fun k o hk => Nat.le_trans (G.chg _).size (hn1.new k o hk); have ho2 := fun k o hk => Nat.le_trans (G.chg _).size (hn2.new k o hk); obtain ⟨g1, rfl⟩ := G.new2_ex _ hn1 hn2; clear hn1 hn2; (try clear g); revert g1; intro g))
  all_goals go_wp2_with (with_reducible refine G.any_mark _ ?_; (try generalize Array.size (World.heap (G.w _)) = bk); (try dsimp only [List.set_cons_zero, List.set_cons_succ]); (try clear g); intro g)
  all_goals refine bodyPost_ret (v := .tuple #[.agg #[.bool rs, .slice Z1 (limbs rn').length z1, .slice Z2 (limbs rd').length z2], .int .i64 re]) (by simp [results, Tryz.results53, go_sem]) rfl ?_
  all_goals exact ⟨Z1, z1, R1, Z2, z2, R2, rfl, hz1, hz2, G.pass _ (by simp) ho1, G.pass _ (by simp) ho2⟩
end Go.Proofs.YtjdnpkicdmapnaaGreatDoor
namespace Go.Proofs.YtjdnpkicdmapnaaGreatDoor
open Go.RowKit GW NL
/-- What is returned is a fraction by its parts, in new memory. -/
def RNq (s : Bool) (n d : Nat) (w : World) (e : Ending) (w' : World) : Prop := ∃ A c F B k H, e = .returned (.agg #[.bool s, .slice A (limbs n).length c, .slice B (limbs d).length k]) ∧ F.Sl A c (limbs n) ∧ H.Sl B k (limbs d) ∧ New w w' F ∧ New w w' H
theorem whole_any (s : Bool) (A : Option Addr) (c n : Nat) (w : World) :
    Calls Tryz.prog 107 #[.bool s, .slice A n c] w fun e w' => ∃ B k H, e = .returned (.agg #[.bool s, .slice A n c, .slice B (limbs 1).length k]) ∧ H.Sl B k (limbs 1) ∧ New w w' H := by
  refine calls_b fun g => ?_
  have h1 : limbs 1 = [1] := limbs_one (by decide) (by decide)
  rw [h1]
  have HK : Hid (Ok [1]) := Lib.hid (Ok.cons (by decide) Ok.nil)
  go_enter Tryz.func107, Tryz.ntmps107
  go_wp2_with (with_reducible refine G.any_mark _ ?_; (try generalize Array.size (World.heap (G.w _)) = bk); (try dsimp only [List.set_cons_zero, List.set_cons_succ]); (try clear g); intro g)
  refine bodyPost_ret (v := .agg #[.bool s, .slice A n c, .slice (some ⟨bk, 0, none⟩) 1 1]) (by simp [results, Tryz.results107, go_sem]) rfl ?_
  exact ⟨some ⟨bk, 0, none⟩, 1, blkF bk (.cells (u32s [1]).toArray 29 (0, 0)), rfl, sl_blk (by simp) (by decide) HK.out, G.give _ (List.mem_cons_self ..)⟩
/-- the size of the greatest integer that is at most a fraction -/
def flq (s : Bool) (n d : Nat) : Nat := if s = true ∧ n % d ≠ 0 then n / d + 1 else n / d
set_option maxRecDepth 20000 in
set_option maxHeartbeats 2000000 in
theorem floor_any (s : Bool) (A B : Option Addr) (c k n d : Nat) (w : World) (h1 : SlW w A c (limbs n)) (h2 : SlW w B k (limbs d)) (hl1 : (limbs n).length ≤ 50000000) (hl2 : (limbs d).length ≤ 50000000) (hd : d ≠ 0) :
    Calls Tryz.prog 79 #[.agg #[.bool s, .slice A (limbs n).length c, .slice B (limbs d).length k]] w (RNq (s && decide (flq s n d ≠ 0)) (flq s n d) 1 w) := by
  refine calls_b fun g => ?_
  have C1 := Lib.hid (fun w h1 h2 => lover_any A B c k n d w h1 h2 (by omega) (by omega) hd)
  have hql : (limbs (n / d)).length ≤ 50000000 := Nat.le_trans (limbs_len_mono (Nat.div_le_self _ _)) hl1
  have l1 : limbs 1 = [1] := limbs_one (by decide) (by decide)
  have HK : Hid (Ok [1]) := Lib.hid (Ok.cons (by decide) Ok.nil)
  have C2 := Lib.hid (fun A b c w h1 h2 => ladd A (some ⟨b, 0, none⟩) c 1 (n / d) 1 w h1 h2 (by omega) (by rw [l1]; decide))
  rw [l1] at C2
  simp only [List.length_cons, List.length_nil, Nat.zero_add] at C2
  have hq1 : n / d + 1 ≠ 0 := Nat.succ_ne_zero _
  have hqp : 0 < (limbs (n / d + 1)).length := (limbs_ne hq1).2
  have hrz : (n % d = 0 ∧ (limbs (n % d)).length = 0) ∨ (n % d ≠ 0 ∧ 0 < (limbs (n % d)).length) := by
    by_cases h : n % d = 0
    · left; rw [h, limbs_zero]; exact ⟨rfl, rfl⟩
    · right; exact ⟨h, (limbs_ne h).2⟩
  have hqz : (n / d = 0 ∧ (limbs (n / d)).length = 0) ∨ (n / d ≠ 0 ∧ 0 < (limbs (n / d)).length) := by
    by_cases h : n / d = 0
    · left; rw [h, limbs_zero]; exact ⟨rfl, rfl⟩
    · right; exact ⟨h, (limbs_ne h).2⟩
  unfold flq
  generalize n % d = R at *
  generalize n / d = Q at *
  have H1 := Lib.hid h1
  have H2 := Lib.hid h2
  have L1 := Lib.hid l1
  clear h1 h2 l1 hd hq1 hql
  generalize (limbs n).length = ln at *
  generalize (limbs d).length = ld at *
  generalize hlQ : (limbs Q).length = lQ at *
  have HlQ := Lib.hid hlQ
  generalize hlQ1 : (limbs (Q + 1)).length = lQ1 at *
  have HlQ1 := Lib.hid hlQ1
  generalize hlR : (limbs R).length = lR at *
  have HlR := Lib.hid hlR
  clear hlQ hlQ1 hlR
  cases s
  · rw [if_neg (fun h => by cases h.1), Bool.false_and]
    go_enter Tryz.func79, Tryz.ntmps79
    go_wp2_with (with_reducible refine G.any_mark _ ?_; (try generalize Array.size (World.heap (G.w _)) = bk); (try dsimp only [List.set_cons_zero, List.set_cons_succ]); (try clear g); intro g)
    refine (C1.out _ (G.sl g (by simp) H1.out) (G.sl g (by simp) H2.out)).mono ?_
    rintro e w1 ⟨Aq, cq, Fq, Bq, dq, Hq, rfl, hsq, htq, hn, hm⟩
    have hnnq := fun k o hk => Nat.le_trans g.chg.size (hn.new k o hk)
    have hmmq := fun k o hk => Nat.le_trans g.chg.size (hm.new k o hk)
    obtain ⟨g1, rfl⟩ := G.new2_ex _ hn hm
    clear hn hm
    (try clear g)
    revert g1
    intro g
    rw [HlQ.out, HlR.out]
    go_wp2_with (with_reducible refine G.any_mark _ ?_; (try generalize Array.size (World.heap (G.w _)) = bk); (try dsimp only [List.set_cons_zero, List.set_cons_succ]); (try clear g); intro g)
    (try (refine cmark _ ?_; (try dsimp only [List.set_cons_zero, List.set_cons_succ]); (try clear g); intro g))
    refine (whole_any _ _ _ _ _).mono ?_
    rintro e w1 ⟨B1, k1, P1, rfl, hs1, hn1⟩
    have ho1 := fun k o hk => Nat.le_trans (G.chg _).size (hn1.new k o hk)
    obtain ⟨g1, rfl⟩ := G.new_ex _ hn1
    clear hn1
    (try clear g)
    revert g1
    intro g
    generalize hl1e : (limbs 1).length = le at *
    have HLE := Lib.hid hl1e
    clear hl1e
    go_wp2_with (with_reducible refine G.any_mark _ ?_; (try generalize Array.size (World.heap (G.w _)) = bk); (try dsimp only [List.set_cons_zero, List.set_cons_succ]); (try clear g); intro g)
    refine bodyPost_ret (v := .agg #[.bool false, .slice Aq lQ cq, .slice B1 le k1]) (by simp [results, Tryz.results79, go_sem]) rfl ?_
    exact ⟨Aq, cq, Fq, B1, k1, P1, by rw [HlQ.out, HLE.out], hsq, hs1, G.pass _ (by simp) hnnq, G.pass _ (by simp) ho1⟩
  · rcases hrz with ⟨r1, r2⟩ | ⟨r1, r2⟩
    · rw [if_neg (fun h => h.2 r1), Bool.true_and]
      clear r1
      subst r2
      rcases hqz with ⟨q1, q2⟩ | ⟨q1, q2⟩
      · rw [decide_eq_false (fun h => h q1)]
        clear q1
        subst q2
        go_enter Tryz.func79, Tryz.ntmps79
        go_wp2_with (with_reducible refine G.any_mark _ ?_; (try generalize Array.size (World.heap (G.w _)) = bk); (try dsimp only [List.set_cons_zero, List.set_cons_succ]); (try clear g); intro g)
        refine (C1.out _ (G.sl g (by simp) H1.out) (G.sl g (by simp) H2.out)).mono ?_
        rintro e w1 ⟨Aq, cq, Fq, Bq, dq, Hq, rfl, hsq, htq, hn, hm⟩
        have hnnq := fun k o hk => Nat.le_trans g.chg.size (hn.new k o hk)
        have hmmq := fun k o hk => Nat.le_trans g.chg.size (hm.new k o hk)
        obtain ⟨g1, rfl⟩ := G.new2_ex _ hn hm
        clear hn hm
        (try clear g)
        revert g1
        intro g
        rw [HlQ.out, HlR.out]
        go_wp2_with (with_reducible refine G.any_mark _ ?_; (try generalize Array.size (World.heap (G.w _)) = bk); (try dsimp only [List.set_cons_zero, List.set_cons_succ]); (try clear g); intro g)
        (try (refine cmark _ ?_; (try dsimp only [List.set_cons_zero, List.set_cons_succ]); (try clear g); intro g))
        refine (whole_any _ _ _ _ _).mono ?_
        rintro e w1 ⟨B1, k1, P1, rfl, hs1, hn1⟩
        have ho1 := fun k o hk => Nat.le_trans (G.chg _).size (hn1.new k o hk)
        obtain ⟨g1, rfl⟩ := G.new_ex _ hn1
        clear hn1
        (try clear g)
        revert g1
        intro g
        generalize hl1e : (limbs 1).length = le at *
        have HLE := Lib.hid hl1e
        clear hl1e
        go_wp2_with (with_reducible refine G.any_mark _ ?_; (try generalize Array.size (World.heap (G.w _)) = bk); (try dsimp only [List.set_cons_zero, List.set_cons_succ]); (try clear g); intro g)
        refine bodyPost_ret (v := .agg #[.bool false, .slice Aq 0 cq, .slice B1 le k1]) (by simp [results, Tryz.results79, go_sem]) rfl ?_
        exact ⟨Aq, cq, Fq, B1, k1, P1, by rw [HlQ.out, HLE.out], hsq, hs1, G.pass _ (by simp) hnnq, G.pass _ (by simp) ho1⟩
      · rw [decide_eq_true q1]
        have q3 : (0 : Int) < (lQ : Int) := by omega
        clear q1
        go_enter Tryz.func79, Tryz.ntmps79
        go_wp2_with (with_reducible refine G.any_mark _ ?_; (try generalize Array.size (World.heap (G.w _)) = bk); (try dsimp only [List.set_cons_zero, List.set_cons_succ]); (try clear g); intro g)
        refine (C1.out _ (G.sl g (by simp) H1.out) (G.sl g (by simp) H2.out)).mono ?_
        rintro e w1 ⟨Aq, cq, Fq, Bq, dq, Hq, rfl, hsq, htq, hn, hm⟩
        have hnnq := fun k o hk => Nat.le_trans g.chg.size (hn.new k o hk)
        have hmmq := fun k o hk => Nat.le_trans g.chg.size (hm.new k o hk)
        obtain ⟨g1, rfl⟩ := G.new2_ex _ hn hm
        clear hn hm
        (try clear g)
        revert g1
        intro g
        rw [HlQ.out, HlR.out]
        go_wp2_with (with_reducible refine G.any_mark _ ?_; (try generalize Array.size (World.heap (G.w _)) = bk); (try dsimp only [List.set_cons_zero, List.set_cons_succ]); (try clear g); intro g)
        (try (refine cmark _ ?_; (try dsimp only [List.set_cons_zero, List.set_cons_succ]); (try clear g); intro g))
        refine (whole_any _ _ _ _ _).mono ?_
        rintro e w1 ⟨B1, k1, P1, rfl, hs1, hn1⟩
        have ho1 := fun k o hk => Nat.le_trans (G.chg _).size (hn1.new k o hk)
        obtain ⟨g1, rfl⟩ := G.new_ex _ hn1
        clear hn1
        (try clear g)
        revert g1
        intro g
        generalize hl1e : (limbs 1).length = le at *
        have HLE := Lib.hid hl1e
        clear hl1e
        go_wp2_with (with_reducible refine G.any_mark _ ?_; (try generalize Array.size (World.heap (G.w _)) = bk); (try dsimp only [List.set_cons_zero, List.set_cons_succ]); (try clear g); intro g)
        refine bodyPost_ret (v := .agg #[.bool true, .slice Aq lQ cq, .slice B1 le k1]) (by simp [results, Tryz.results79, go_sem]) rfl ?_
        exact ⟨Aq, cq, Fq, B1, k1, P1, by rw [HlQ.out, HLE.out], hsq, hs1, G.pass _ (by simp) hnnq, G.pass _ (by simp) ho1⟩
    · rw [if_pos ⟨rfl, r1⟩, Bool.true_and, decide_eq_true (Nat.succ_ne_zero Q)]
      have r3 : (0 : Int) < (lR : Int) := by omega
      have q3 : (0 : Int) < (lQ1 : Int) := by omega
      clear r1 hqz
      go_enter Tryz.func79, Tryz.ntmps79
      go_wp2_with (with_reducible refine G.any_mark _ ?_; (try generalize Array.size (World.heap (G.w _)) = bk); (try dsimp only [List.set_cons_zero, List.set_cons_succ]); (try clear g); intro g)
      refine (C1.out _ (G.sl g (by simp) H1.out) (G.sl g (by simp) H2.out)).mono ?_
      rintro e w1 ⟨Aq, cq, Fq, Bq, dq, Hq, rfl, hsq, htq, hn, hm⟩
      have hnnq := fun k o hk => Nat.le_trans g.chg.size (hn.new k o hk)
      have hmmq := fun k o hk => Nat.le_trans g.chg.size (hm.new k o hk)
      obtain ⟨g1, rfl⟩ := G.new2_ex _ hn hm
      clear hn hm
      (try clear g)
      revert g1
      intro g
      rw [HlQ.out, HlR.out]
      go_wp2_with (with_reducible refine G.any_mark _ ?_; (try generalize Array.size (World.heap (G.w _)) = bk); (try dsimp only [List.set_cons_zero, List.set_cons_succ]); (try clear g); intro g)
      have hsl1 : SlW g.w (some ⟨bk, 0, none⟩) 1 [1] := (sl_blk (T := 29) (fr := (0, 0)) (l := [1]) (by simp) (by decide) HK.out).at (blkF_sub g.blk0)
      refine (C2.out _ _ _ _ (G.sl g (by simp) hsq) hsl1).mono ?_
      rintro e w1 ⟨Ap, cp, Fp, rfl, hsp, hn⟩
      have hnnp := fun k o hk => Nat.le_trans g.chg.size (hn.new k o hk)
      obtain ⟨g1, rfl⟩ := G.new_ex _ hn
      clear hn
      (try clear g)
      revert g1
      intro g
      rw [HlQ1.out]
      go_wp2_with (with_reducible refine G.any_mark _ ?_; (try generalize Array.size (World.heap (G.w _)) = bk); (try dsimp only [List.set_cons_zero, List.set_cons_succ]); (try clear g); intro g)
      (try (refine cmark _ ?_; (try dsimp only [List.set_cons_zero, List.set_cons_succ]); (try clear g); intro g))
      refine (whole_any _ _ _ _ _).mono ?_
      rintro e w1 ⟨B1, k1, P1, rfl, hs1, hn1⟩
      have ho1 := fun k o hk => Nat.le_trans (G.chg _).size (hn1.new k o hk)
      obtain ⟨g1, rfl⟩ := G.new_ex _ hn1
      clear hn1
      (try clear g)
      revert g1
      intro g
      generalize hl1e : (limbs 1).length = le at *
      have HLE := Lib.hid hl1e
      clear hl1e
      go_wp2_with (with_reducible refine G.any_mark _ ?_; (try generalize Array.size (World.heap (G.w _)) = bk); (try dsimp only [List.set_cons_zero, List.set_cons_succ]); (try clear g); intro g)
      refine bodyPost_ret (v := .agg #[.bool true, .slice Ap lQ1 cp, .slice B1 le k1]) (by simp [results, Tryz.results79, go_sem]) rfl ?_
      exact ⟨Ap, cp, Fp, B1, k1, P1, by rw [HlQ1.out, HLE.out], hsp, hs1, G.pass _ (by simp) hnnp, G.pass _ (by simp) ho1⟩
theorem rn_frac_le (s : Bool) {n d : Nat} (hd : d ≠ 0) : rn (frac s n d) ≤ n := by rw [frac_rn s hd]; exact Nat.div_le_self _ _
theorem den_frac_le (s : Bool) {n d : Nat} (hd : d ≠ 0) : (frac s n d).den ≤ d := by rw [frac_den s hd]; exact Nat.div_le_self _ _
/-- a half more, for a fraction that is not negative -/
def hf (n d : Nat) : Rat := frac false n d + frac false 1 2
theorem hf_eq {n d : Nat} (hd : d ≠ 0) : hf n d = frac false (n * 2 + 1 * d) (d * 2) := frac_add_same false hd (by decide)
theorem hf_neg {n d : Nat} (hd : d ≠ 0) : rneg (hf n d) = false := by
  rw [hf_eq hd, frac_rneg false (Nat.mul_ne_zero hd (by decide))]; rfl
/-- the nearest integer to a fraction that is not negative -/
def rdq (n d : Nat) : Nat := rn (hf n d) / (hf n d).den
set_option maxRecDepth 20000 in
set_option maxHeartbeats 2000000 in
theorem round_pos (A B : Option Addr) (c k n d : Nat) (w : World) (h1 : SlW w A c (limbs n)) (h2 : SlW w B k (limbs d)) (hT : Tab w) (hl1 : (limbs n).length ≤ 10000000) (hl2 : (limbs d).length ≤ 10000000) (hd : d ≠ 0) :
    Calls Tryz.prog 81 #[.agg #[.bool false, .slice A (limbs n).length c, .slice B (limbs d).length k]] w (RNq false (rdq n d) 1 w) := by
  refine calls_b fun g => ?_
  have l1 : limbs 1 = [1] := limbs_one (by decide) (by decide)
  have l2 : limbs 2 = [2] := limbs_one (by decide) (by decide)
  have HK1 : Hid (Ok [1]) := Lib.hid (Ok.cons (by decide) Ok.nil)
  have HK2 : Hid (Ok [2]) := Lib.hid (Ok.cons (by decide) Ok.nil)
  have C1 := Lib.hid (fun w b1 b2 ha hb hc hd' ht => (by
    have := fplus_any false false A B (some ⟨b1, 0, none⟩) (some ⟨b2, 0, none⟩) c k 1 1 n d 1 2 w ha hb (by rw [l1]; exact hc) (by rw [l2]; exact hd') ht hl1 hl2 (by rw [l1]; decide) (by rw [l2]; decide) hd (by decide)
    rw [l1, l2] at this
    exact this : Calls Tryz.prog 45 #[.agg #[.bool false, .slice A (limbs n).length c, .slice B (limbs d).length k], .agg #[.bool false, .slice (some ⟨b1, 0, none⟩) 1 1, .slice (some ⟨b2, 0, none⟩) 1 1]] w (RNf (hf n d) w)))
  have hb1 : (limbs (rn (hf n d))).length ≤ 50000000 := by
    rw [hf_eq hd]
    refine Nat.le_trans (limbs_len_mono (rn_frac_le false (Nat.mul_ne_zero hd (by decide)))) ?_
    have a1 := limbs_add_len (n * 2) (1 * d)
    have a2 := limbs_mul_len n 2
    rw [l2] at a2
    rw [Nat.one_mul] at a1 ⊢
    simp only [List.length_cons, List.length_nil] at a2
    omega
  have hb2 : (limbs (hf n d).den).length ≤ 50000000 := by
    rw [hf_eq hd]
    refine Nat.le_trans (limbs_len_mono (den_frac_le false (Nat.mul_ne_zero hd (by decide)))) ?_
    have a2 := limbs_mul_len d 2
    rw [l2] at a2
    simp only [List.length_cons, List.length_nil] at a2
    omega
  have CF := Lib.hid (fun A B c k w h1 h2 => floor_any false A B c k (rn (hf n d)) (hf n d).den w h1 h2 hb1 hb2 (hf n d).den_nz)
  have hfl : flq false (rn (hf n d)) (hf n d).den = rdq n d := by unfold flq rdq; rw [if_neg (fun h => by cases h.1)]
  rw [hfl] at CF
  simp only [Bool.false_and] at CF
  have HNG := Lib.hid (hf_neg (n := n) hd)
  have HT := Lib.hid hT
  have H1 := Lib.hid h1
  have H2 := Lib.hid h2
  clear h1 h2 l1 l2 hd hT hb1 hb2 hfl
  generalize rdq n d = Q at *
  generalize hf n d = y at *
  unfold RNf at C1
  rw [HNG.out] at C1
  generalize (limbs n).length = ln at *
  generalize (limbs d).length = ld at *
  go_enter Tryz.func81, Tryz.ntmps81
  go_wp2_with (with_reducible refine G.any_mark _ ?_; (try generalize Array.size (World.heap (G.w _)) = bk); (try dsimp only [List.set_cons_zero, List.set_cons_succ]); (try clear g); intro g)
  obtain ⟨b2, rfl⟩ : ∃ b2, b2 = bk := ⟨_, rfl⟩
  obtain ⟨b1, rfl⟩ : ∃ b1, b1 = bk := ⟨_, rfl⟩
  have hs1 : SlW g.w (some ⟨b1, 0, none⟩) 1 [1] := (sl_blk (T := 29) (fr := (0, 0)) (l := [1]) (by simp) (by decide) HK1.out).at (blkF_sub g.blk1)
  have hs2 : SlW g.w (some ⟨b2, 0, none⟩) 1 [2] := (sl_blk (T := 29) (fr := (0, 0)) (l := [2]) (by simp) (by decide) HK2.out).at (blkF_sub g.blk0)
  refine (C1.out _ _ _ (G.sl g (by simp) H1.out) (G.sl g (by simp) H2.out) hs1 hs2 (G.tab g HT.out)).mono ?_
  rintro e w1 ⟨Y1, y1, Q1, Y2, y2, Q2, rfl, hy1, hy2, hn1, hn2⟩
  obtain ⟨g1, rfl⟩ := G.new2_ex _ hn1 hn2
  clear hn1 hn2 hs1 hs2
  (try clear g)
  revert g1
  intro g
  go_wp2_with (with_reducible refine G.any_mark _ ?_; (try generalize Array.size (World.heap (G.w _)) = bk); (try dsimp only [List.set_cons_zero, List.set_cons_succ]); (try clear g); intro g)
  refine (CF.out _ _ _ _ _ (G.sl g (by simp) hy1) (G.sl g (by simp) hy2)).mono ?_
  rintro e w1 ⟨Z1, z1, R1, Z2, z2, R2, rfl, hz1, hz2, hn1, hn2⟩
  have ho1 := fun k o hk => Nat.le_trans (G.chg _).size (hn1.new k o hk)
  have ho2 := fun k o hk => Nat.le_trans (G.chg _).size (hn2.new k o hk)
  obtain ⟨g1, rfl⟩ := G.new2_ex _ hn1 hn2
  clear hn1 hn2
  (try clear g)
  revert g1
  intro g
  generalize hl1e : (limbs 1).length = le at *
  have HLE := Lib.hid hl1e
  clear hl1e
  go_wp2_with (with_reducible refine G.any_mark _ ?_; (try generalize Array.size (World.heap (G.w _)) = bk); (try dsimp only [List.set_cons_zero, List.set_cons_succ]); (try clear g); intro g)
  refine bodyPost_ret (v := .agg #[.bool false, .slice Z1 (limbs Q).length z1, .slice Z2 le z2]) (by simp [results, Tryz.results81, go_sem]) rfl ?_
  exact ⟨Z1, z1, R1, Z2, z2, R2, by rw [HLE.out], hz1, hz2, G.pass _ (by simp) ho1, G.pass _ (by simp) ho2⟩
set_option maxRecDepth 20000 in
set_option maxHeartbeats 2000000 in
theorem round_neg (A B : Option Addr) (c k n d : Nat) (w : World) (h1 : SlW w A c (limbs n)) (h2 : SlW w B k (limbs d)) (hT : Tab w) (hl1 : (limbs n).length ≤ 10000000) (hl2 : (limbs d).length ≤ 10000000) (hd : d ≠ 0) :
    Calls Tryz.prog 81 #[.agg #[.bool true, .slice A (limbs n).length c, .slice B (limbs d).length k]] w (RNq (decide (rdq n d ≠ 0)) (rdq n d) 1 w) := by
  refine calls_b fun g => ?_
  have C0 := Lib.hid (fun w => minus_any true A B c k (limbs n).length (limbs d).length w)
  simp only [Bool.not_true, Bool.false_and] at C0
  have C1 := Lib.hid (fun w h1 h2 ht => round_pos A B c k n d w h1 h2 ht hl1 hl2 hd)
  have HT := Lib.hid hT
  have H1 := Lib.hid h1
  have H2 := Lib.hid h2
  clear h1 h2 hd hT
  generalize rdq n d = Q at *
  generalize (limbs n).length = ln at *
  generalize (limbs d).length = ld at *
  have C2 := Lib.hid (fun A B c k w => minus_any false A B c k (limbs Q).length (limbs 1).length w)
  have hQ : (!false && decide (0 < (limbs Q).length)) = decide (Q ≠ 0) := by
    rw [Bool.not_false, Bool.true_and]
    apply decide_eq_decide.2
    constructor
    · intro h h0; rw [h0, limbs_zero] at h; exact absurd h (by simp)
    · intro h; exact (limbs_ne h).2
  rw [hQ] at C2
  clear hQ
  generalize decide (Q ≠ 0) = t at *
  go_enter Tryz.func81, Tryz.ntmps81
  go_wp2_with (with_reducible refine G.any_mark _ ?_; (try generalize Array.size (World.heap (G.w _)) = bk); (try dsimp only [List.set_cons_zero, List.set_cons_succ]); (try clear g); intro g)
  refine (C0.out _).mono ?_
  rintro e w1 ⟨rfl, hb⟩
  obtain ⟨g1, rfl⟩ := G.call_ex _ hb
  clear hb
  (try clear g)
  revert g1
  intro g
  go_wp2_with (with_reducible refine G.any_mark _ ?_; (try generalize Array.size (World.heap (G.w _)) = bk); (try dsimp only [List.set_cons_zero, List.set_cons_succ]); (try clear g); intro g)
  refine (C1.out _ (G.sl g (by simp) H1.out) (G.sl g (by simp) H2.out) (G.tab g HT.out)).mono ?_
  rintro e w1 ⟨Z1, z1, R1, Z2, z2, R2, rfl, hz1, hz2, hn1, hn2⟩
  have ho1 := fun k o hk => Nat.le_trans (G.chg _).size (hn1.new k o hk)
  have ho2 := fun k o hk => Nat.le_trans (G.chg _).size (hn2.new k o hk)
  obtain ⟨g1, rfl⟩ := G.new2_ex _ hn1 hn2
  clear hn1 hn2
  (try clear g)
  revert g1
  intro g
  go_wp2_with (with_reducible refine G.any_mark _ ?_; (try generalize Array.size (World.heap (G.w _)) = bk); (try dsimp only [List.set_cons_zero, List.set_cons_succ]); (try clear g); intro g)
  refine (C2.out _ _ _ _ _).mono ?_
  rintro e w1 ⟨rfl, hb⟩
  obtain ⟨g1, rfl⟩ := G.call_ex _ hb
  clear hb
  (try clear g)
  revert g1
  intro g
  generalize hl1e : (limbs 1).length = le at *
  have HLE := Lib.hid hl1e
  clear hl1e
  go_wp2_with (with_reducible refine G.any_mark _ ?_; (try generalize Array.size (World.heap (G.w _)) = bk); (try dsimp only [List.set_cons_zero, List.set_cons_succ]); (try clear g); intro g)
  refine bodyPost_ret (v := .agg #[.bool t, .slice Z1 (limbs Q).length z1, .slice Z2 le z2]) (by simp [results, Tryz.results81, go_sem]) rfl ?_
  exact ⟨Z1, z1, R1, Z2, z2, R2, by rw [HLE.out], hz1, hz2, G.pass _ (by simp) ho1, G.pass _ (by simp) ho2⟩
theorem round_any (s : Bool) (A B : Option Addr) (c k n d : Nat) (w : World) (h1 : SlW w A c (limbs n)) (h2 : SlW w B k (limbs d)) (hT : Tab w) (hl1 : (limbs n).length ≤ 10000000) (hl2 : (limbs d).length ≤ 10000000) (hd : d ≠ 0) :
    Calls Tryz.prog 81 #[.agg #[.bool s, .slice A (limbs n).length c, .slice B (limbs d).length k]] w (RNq (s && decide (rdq n d ≠ 0)) (rdq n d) 1 w) := by
  cases s
  · exact round_pos A B c k n d w h1 h2 hT hl1 hl2 hd
  · exact round_neg A B c k n d w h1 h2 hT hl1 hl2 hd
end Go.Proofs.YtjdnpkicdmapnaaGreatDoor
namespace Go.Proofs.YtjdnpkicdmapnaaGreatDoor
open Go.RowKit GW NL
set_option maxRecDepth 20000 in
set_option maxHeartbeats 4000000 in
theorem neg1_any (b cap : Nat) (s : Bool) (A B : Option Addr) (c k n d : Nat) (w : World) (f1 : FrAt w b 0 s A (limbs n).length c B (limbs d).length k) (hcap : 1 ≤ cap) (h1 : SlW w A c (limbs n)) (j1 : SlW w B k (limbs d)) (hT : Tab w) (l1 : (limbs n).length ≤ 10000000) (m1 : (limbs d).length ≤ 10000000) (z1 : d ≠ 0) :
    Calls Tryz.prog 40 #[.slice (some ⟨b, 0, none⟩) 1 cap] w (RPE (outP (!s && decide (0 < (limbs n).length)) n d) w) := by
  refine calls_b fun g => ?_
  have C0 := Lib.hid (fun w => minus_any s A B c k (limbs n).length (limbs d).length w)
  have CR := Lib.hid (fun A B c k w h1 h2 => result_any (!s && decide (0 < (limbs n).length)) A B c k n d w h1 h2)
  generalize (!s && decide (0 < (limbs n).length)) = t at *
  have HT := Lib.hid hT
  have E0 := fun (M : List Blk) (g : G w [] M [heapOf w]) => G.old g (List.mem_cons_self ..) f1.c0
  have E1 := fun (M : List Blk) (g : G w [] M [heapOf w]) => G.old g (List.mem_cons_self ..) f1.c1
  have E2 := fun (M : List Blk) (g : G w [] M [heapOf w]) => G.old g (List.mem_cons_self ..) f1.c2
  have H1 := Lib.hid h1
  have J1 := Lib.hid j1
  clear hT f1 z1 h1 j1
  generalize (limbs n).length = ln at *
  generalize (limbs d).length = ld at *
  generalize outP t n d = r at *
  obtain ⟨rs, rn', rd', re⟩ := r
  unfold RPE at CR ⊢
  dsimp only at CR ⊢
  have hcap2 : (1 : Int) ≤ (cap : Int) := by omega
  go_enter Tryz.func40, Tryz.ntmps40
  go_wp2_with (with_reducible refine G.any_mark _ ?_; (try generalize Array.size (World.heap (G.w _)) = bk); (try dsimp only [List.set_cons_zero, List.set_cons_succ]); (try clear g); intro g)
  clear E0 E1 E2
  (try (refine cmark _ ?_; (try dsimp only [List.set_cons_zero, List.set_cons_succ]); (try clear g); intro g))
  refine (C0.out _).mono ?_
  rintro e w1 ⟨rfl, hb⟩
  obtain ⟨g1, rfl⟩ := G.call_ex _ hb
  clear hb
  (try clear g)
  revert g1
  intro g
  go_wp2_with (with_reducible refine G.any_mark _ ?_; (try generalize Array.size (World.heap (G.w _)) = bk); (try dsimp only [List.set_cons_zero, List.set_cons_succ]); (try clear g); intro g)
  refine (CR.out _ _ _ _ _ (G.sl g (by simp) H1.out) (G.sl g (by simp) J1.out)).mono ?_
  rintro e w1 ⟨Z1, z1, R1, Z2, z2, R2, rfl, hz1, hz2, hn1, hn2⟩
  have ho1 := fun k o hk => Nat.le_trans (G.chg _).size (hn1.new k o hk)
  have ho2 := fun k o hk => Nat.le_trans (G.chg _).size (hn2.new k o hk)
  obtain ⟨g1, rfl⟩ := G.new2_ex _ hn1 hn2
  clear hn1 hn2
  (try clear g)
  revert g1
  intro g
  go_wp2_with (with_reducible refine G.any_mark _ ?_; (try generalize Array.size (World.heap (G.w _)) = bk); (try dsimp only [List.set_cons_zero, List.set_cons_succ]); (try clear g); intro g)
  refine bodyPost_ret (v := .tuple #[.agg #[.bool rs, .slice Z1 (limbs rn').length z1, .slice Z2 (limbs rd').length z2], .int .i64 re]) (by simp [results, Tryz.results40, go_sem]) rfl ?_
  exact ⟨Z1, z1, R1, Z2, z2, R2, rfl, hz1, hz2, G.pass _ (by simp) ho1, G.pass _ (by simp) ho2⟩
set_option maxRecDepth 20000 in
set_option maxHeartbeats 4000000 in
theorem floor1_any (b cap : Nat) (s : Bool) (A B : Option Addr) (c k n d : Nat) (w : World) (f1 : FrAt w b 0 s A (limbs n).length c B (limbs d).length k) (hcap : 1 ≤ cap) (h1 : SlW w A c (limbs n)) (j1 : SlW w B k (limbs d)) (hT : Tab w) (l1 : (limbs n).length ≤ 10000000) (m1 : (limbs d).length ≤ 10000000) (z1 : d ≠ 0) :
    Calls Tryz.prog 78 #[.slice (some ⟨b, 0, none⟩) 1 cap] w (RPE (outP (s && decide (flq s n d ≠ 0)) (flq s n d) 1) w) := by
  refine calls_b fun g => ?_
  have C0 := Lib.hid (fun w a b => floor_any s A B c k n d w a b (by omega) (by omega) z1)
  have CR := Lib.hid (fun A B c k w h1 h2 => result_any (s && decide (flq s n d ≠ 0)) A B c k (flq s n d) 1 w h1 h2)
  generalize flq s n d = Q at *
  generalize (s && decide (Q ≠ 0)) = t at *
  have HT := Lib.hid hT
  have E0 := fun (M : List Blk) (g : G w [] M [heapOf w]) => G.old g (List.mem_cons_self ..) f1.c0
  have E1 := fun (M : List Blk) (g : G w [] M [heapOf w]) => G.old g (List.mem_cons_self ..) f1.c1
  have E2 := fun (M : List Blk) (g : G w [] M [heapOf w]) => G.old g (List.mem_cons_self ..) f1.c2
  have H1 := Lib.hid h1
  have J1 := Lib.hid j1
  clear hT f1 z1 h1 j1
  generalize (limbs n).length = ln at *
  generalize (limbs d).length = ld at *
  generalize outP t Q 1 = r at *
  obtain ⟨rs, rn', rd', re⟩ := r
  unfold RPE at CR ⊢
  dsimp only at CR ⊢
  have hcap2 : (1 : Int) ≤ (cap : Int) := by omega
  go_enter Tryz.func78, Tryz.ntmps78
  go_wp2_with (with_reducible refine G.any_mark _ ?_; (try generalize Array.size (World.heap (G.w _)) = bk); (try dsimp only [List.set_cons_zero, List.set_cons_succ]); (try clear g); intro g)
  clear E0 E1 E2
  (try (refine cmark _ ?_; (try dsimp only [List.set_cons_zero, List.set_cons_succ]); (try clear g); intro g))
  refine (C0.out _ (G.sl g (by simp) H1.out) (G.sl g (by simp) J1.out)).mono ?_
  rintro e w1 ⟨Y1, y1, Q1, Y2, y2, Q2, rfl, hy1, hy2, hn1, hn2⟩
  obtain ⟨g1, rfl⟩ := G.new2_ex _ hn1 hn2
  clear hn1 hn2
  (try clear g)
  revert g1
  intro g
  go_wp2_with (with_reducible refine G.any_mark _ ?_; (try generalize Array.size (World.heap (G.w _)) = bk); (try dsimp only [List.set_cons_zero, List.set_cons_succ]); (try clear g); intro g)
  refine (CR.out _ _ _ _ _ (G.sl g (by simp) hy1) (G.sl g (by simp) hy2)).mono ?_
  rintro e w1 ⟨Z1, z1, R1, Z2, z2, R2, rfl, hz1, hz2, hn1, hn2⟩
  have ho1 := fun k o hk => Nat.le_trans (G.chg _).size (hn1.new k o hk)
  have ho2 := fun k o hk => Nat.le_trans (G.chg _).size (hn2.new k o hk)
  obtain ⟨g1, rfl⟩ := G.new2_ex _ hn1 hn2
  clear hn1 hn2
  (try clear g)
  revert g1
  intro g
  go_wp2_with (with_reducible refine G.any_mark _ ?_; (try generalize Array.size (World.heap (G.w _)) = bk); (try dsimp only [List.set_cons_zero, List.set_cons_succ]); (try clear g); intro g)
  refine bodyPost_ret (v := .tuple #[.agg #[.bool rs, .slice Z1 (limbs rn').length z1, .slice Z2 (limbs rd').length z2], .int .i64 re]) (by simp [results, Tryz.results78, go_sem]) rfl ?_
  exact ⟨Z1, z1, R1, Z2, z2, R2, rfl, hz1, hz2, G.pass _ (by simp) ho1, G.pass _ (by simp) ho2⟩
set_option maxRecDepth 20000 in
set_option maxHeartbeats 4000000 in
theorem round1_any (b cap : Nat) (s : Bool) (A B : Option Addr) (c k n d : Nat) (w : World) (f1 : FrAt w b 0 s A (limbs n).length c B (limbs d).length k) (hcap : 1 ≤ cap) (h1 : SlW w A c (limbs n)) (j1 : SlW w B k (limbs d)) (hT : Tab w) (l1 : (limbs n).length ≤ 10000000) (m1 : (limbs d).length ≤ 10000000) (z1 : d ≠ 0) :
    Calls Tryz.prog 80 #[.slice (some ⟨b, 0, none⟩) 1 cap] w (RPE (outP (s && decide (rdq n d ≠ 0)) (rdq n d) 1) w) := by
  refine calls_b fun g => ?_
  have C0 := Lib.hid (fun w a b t => round_any s A B c k n d w a b t l1 m1 z1)
  have CR := Lib.hid (fun A B c k w h1 h2 => result_any (s && decide (rdq n d ≠ 0)) A B c k (rdq n d) 1 w h1 h2)
  generalize rdq n d = Q at *
  generalize (s && decide (Q ≠ 0)) = t at *
  have HT := Lib.hid hT
  have E0 := fun (M : List Blk) (g : G w [] M [heapOf w]) => G.old g (List.mem_cons_self ..) f1.c0
  have E1 := fun (M : List Blk) (g : G w [] M [heapOf w]) => G.old g (List.mem_cons_self ..) f1.c1
  have E2 := fun (M : List Blk) (g : G w [] M [heapOf w]) => G.old g (List.mem_cons_self ..) f1.c2
  have H1 := Lib.hid h1
  have J1 := Lib.hid j1
  clear hT f1 z1 h1 j1
  generalize (limbs n).length = ln at *
  generalize (limbs d).length = ld at *
  generalize outP t Q 1 = r at *
  obtain ⟨rs, rn', rd', re⟩ := r
  unfold RPE at CR ⊢
  dsimp only at CR ⊢
  have hcap2 : (1 : Int) ≤ (cap : Int) := by omega
  go_enter Tryz.func80, Tryz.ntmps80
  go_wp2_with (with_reducible refine G.any_mark _ ?_; (try generalize Array.size (World.heap (G.w _)) = bk); (try dsimp only [List.set_cons_zero, List.set_cons_succ]); (try clear g); intro g)
  clear E0 E1 E2
  (try (refine cmark _ ?_; (try dsimp only [List.set_cons_zero, List.set_cons_succ]); (try clear g); intro g))
  refine (C0.out _ (G.sl g (by simp) H1.out) (G.sl g (by simp) J1.out) (G.tab g HT.out)).mono ?_
  rintro e w1 ⟨Y1, y1, Q1, Y2, y2, Q2, rfl, hy1, hy2, hn1, hn2⟩
  obtain ⟨g1, rfl⟩ := G.new2_ex _ hn1 hn2
  clear hn1 hn2
  (try clear g)
  revert g1
  intro g
  go_wp2_with (with_reducible refine G.any_mark _ ?_; (try generalize Array.size (World.heap (G.w _)) = bk); (try dsimp only [List.set_cons_zero, List.set_cons_succ]); (try clear g); intro g)
  refine (CR.out _ _ _ _ _ (G.sl g (by simp) hy1) (G.sl g (by simp) hy2)).mono ?_
  rintro e w1 ⟨Z1, z1, R1, Z2, z2, R2, rfl, hz1, hz2, hn1, hn2⟩
  have ho1 := fun k o hk => Nat.le_trans (G.chg _).size (hn1.new k o hk)
  have ho2 := fun k o hk => Nat.le_trans (G.chg _).size (hn2.new k o hk)
  obtain ⟨g1, rfl⟩ := G.new2_ex _ hn1 hn2
  clear hn1 hn2
  (try clear g)
  revert g1
  intro g
  go_wp2_with (with_reducible refine G.any_mark _ ?_; (try generalize Array.size (World.heap (G.w _)) = bk); (try dsimp only [List.set_cons_zero, List.set_cons_succ]); (try clear g); intro g)
  refine bodyPost_ret (v := .tuple #[.agg #[.bool rs, .slice Z1 (limbs rn').length z1, .slice Z2 (limbs rd').length z2], .int .i64 re]) (by simp [results, Tryz.results80, go_sem]) rfl ?_
  exact ⟨Z1, z1, R1, Z2, z2, R2, rfl, hz1, hz2, G.pass _ (by simp) ho1, G.pass _ (by simp) ho2⟩
end Go.Proofs.YtjdnpkicdmapnaaGreatDoor
namespace Go.Proofs.YtjdnpkicdmapnaaGreatDoor
open Go.RowKit GW NL
theorem infoFr : (Tryz.prog.info? 61).map (fun i => (i.zero, i.size, i.bytes)) = some (some (.agg #[.bool false, .slice none 0 0, .slice none 0 0]), 3, 56) := by kernel_rfl
/-- from cell o on a number lies in block b: its parts -/
structure PtAt (w : World) (b o : Nat) (s : Bool) (A : Option Addr) (n c : Nat) (B : Option Addr) (d k : Nat) : Prop where
  c0 : w.cell? ⟨b, o, none⟩ = some (.bool s)
  c1 : w.cell? ⟨b, o + 1, none⟩ = some (.slice A n c)
  c2 : w.cell? ⟨b, o + 2, none⟩ = some (.slice B d k)
/-- the cells of parts -/
def pts (s : Bool) (A : Option Addr) (n c : Nat) (B : Option Addr) (d k : Nat) : List Value := [.bool s, .slice A n c, .slice B d k]
theorem pts_one (s : Bool) (A : Option Addr) (n c : Nat) (B : Option Addr) (d k : Nat) : ∀ u ∈ [Value.bool s, .slice A n c, .slice B d k], u.oneCell' = true := by
  intro u hu
  simp only [List.mem_cons, List.not_mem_nil, or_false] at hu
  rcases hu with rfl | rfl | rfl <;> rfl
theorem row_at {w0 : World} {X : List Nat} {M : List Blk} {I : List Frag} (g : G w0 X M I) {b n cap : Nat} {T : TypeId} {cs xs : List Value} (hm : (b, T, cs) ∈ M) (h : Row T 3 n xs cap cs) {j : Nat} {v : Value} (hv : xs[j]? = some v) : g.w.cell? ⟨b, j, none⟩ = some v := by
  have hl := (List.getElem?_eq_some_iff.1 hv).1
  have hx := h.xl
  have := g.own _ hm
  simp only at this
  simp only [World.cell?, this]
  rw [← h.take, List.getElem?_take_of_lt (by omega)] at hv
  simpa using hv
set_option maxRecDepth 20000 in
set_option maxHeartbeats 4000000 in
theorem with_neg (lb : Nat) (r : Bool × Nat × Nat × Int) (s1 : Bool) (A1 B1 : Option Addr) (c1 k1 : Nat) (l1 m1 : List Nat) (w : World) (p1 : PtAt w lb 0 s1 A1 l1.length c1 B1 m1.length k1) (h1 : SlW w A1 c1 l1) (j1 : SlW w B1 k1 m1) (hT : Tab w)
    (hf : rchk s1 l1 m1 = 0 → ∀ (w' : World) (bF capF : Nat), 1 ≤ capF → FrAt w' bF 0 s1 A1 l1.length c1 B1 m1.length k1 → SlW w' A1 c1 l1 → SlW w' B1 k1 m1 → Tab w' → Calls Tryz.prog 40 #[.slice (some ⟨bF, 0, none⟩) 1 capF] w' (RPE r w')) :
    Calls Tryz.prog 39 #[.func (.func 40) #[] #[], .slice (some ⟨lb, 0, none⟩) 1 1] w (RPE (if rchk s1 l1 m1 ≠ 0 then (false, 0, 0, rchk s1 l1 m1) else r) w) := by
  refine calls_b fun g => ?_
  have CK1 := Lib.hid (fun w a b t => rcheck s1 A1 B1 c1 k1 l1 m1 w a b t)
  have CO1 := Lib.hid (fun w => of_any s1 A1 B1 c1 k1 l1.length m1.length w)
  have E10 := fun (M : List Blk) (g : G w [] M [heapOf w]) => G.old g (List.mem_cons_self ..) p1.c0
  have E11 := fun (M : List Blk) (g : G w [] M [heapOf w]) => G.old g (List.mem_cons_self ..) p1.c1
  have E12 := fun (M : List Blk) (g : G w [] M [heapOf w]) => G.old g (List.mem_cons_self ..) p1.c2
  have H1 := Lib.hid h1
  have J1 := Lib.hid j1
  obtain ⟨e1, he1⟩ : ∃ e, rchk s1 l1 m1 = e := ⟨_, rfl⟩
  rw [he1] at CK1 hf ⊢
  clear p1 h1 j1 he1
  have HF := Lib.hid hf
  have HT := Lib.hid hT
  obtain ⟨RR, hRR⟩ : ∃ RR, (if e1 ≠ 0 then (false, 0, 0, e1) else r) = RR := ⟨_, rfl⟩
  rw [hRR]
  have HRR := Lib.hid hRR
  clear hf hT hRR
  generalize l1.length = n1 at *
  generalize m1.length = d1 at *
  obtain ⟨i0, hi, hz0, hz1, hz2⟩ := info_parts infoFr
  have HP1 := pts_one s1 A1 n1 c1 B1 d1 k1
  go_enter Tryz.func39, Tryz.ntmps39
  go_wp2_with (with_reducible refine G.any_mark _ ?_; (try generalize Array.size (World.heap (G.w _)) = bk); (try dsimp only [List.set_cons_zero, List.set_cons_succ]); (try clear g); intro g)
  obtain ⟨rb, rfl⟩ : ∃ rb, rb = bk := ⟨_, rfl⟩
  go_loopg [6, 12] 1 (fun gk s6 s12 wr => (gk = 1 ∧ s12 = .int .i64 0 ∧ s6 = .slice none 0 0 ∧ ∃ g : G w [] [(rb, 25, [.bool false, .slice none 0 0, .slice none 0 0])] [heapOf w], wr = g.w) ∨ (gk = 0 ∧ s12 = .int .i64 1 ∧ e1 = 0 ∧ ∃ b cap cs, s6 = .slice (some ⟨b, 0, none⟩) 1 cap ∧ Row 61 3 1 ([Value.bool s1, .slice A1 n1 c1, .slice B1 d1 k1]) cap cs ∧ w.heap.size ≤ b ∧ ∃ g : G w [] [(b, 61, cs), (rb, 25, [.bool false, .slice none 0 0, .slice none 0 0])] [heapOf w], wr = g.w))
  case atStart => exact .inl ⟨rfl, rfl, rfl, g, rfl⟩
  case round =>
    clear g
    rcases hrel with ⟨rfl, rfl, rfl, g, rfl⟩ | ⟨rfl, rfl, rfl, b, cap, cs, rfl, hrow, hbw, g, rfl⟩
    · go_wp2_with (with_reducible refine G.any_mark _ ?_; (try generalize Array.size (World.heap (G.w _)) = bk); (try dsimp only [List.set_cons_zero, List.set_cons_succ]); (try clear g); intro g)
      (try (refine cmark _ ?_; (try dsimp only [List.set_cons_zero, List.set_cons_succ]); (try clear g); intro g))
      refine (CK1.out _ (G.sl g (by simp) H1.out) (G.sl g (by simp) J1.out) (G.tab g HT.out)).mono ?_
      rintro e w1 ⟨rfl, hb⟩
      obtain ⟨g1, rfl⟩ := G.call_ex _ hb
      clear hb
      (try clear g)
      revert g1
      intro g
      by_cases hez : e1 = 0
      · subst hez
        go_wp2_with (with_reducible refine G.any_mark _ ?_; (try generalize Array.size (World.heap (G.w _)) = bk); (try dsimp only [List.set_cons_zero, List.set_cons_succ]); (try clear g); intro g)
        refine (CO1.out _).mono ?_
        rintro e w1 ⟨rfl, hb⟩
        obtain ⟨g1, rfl⟩ := G.call_ex _ hb
        clear hb
        (try clear g)
        revert g1
        intro g
        obtain ⟨g2, hg2⟩ := G.less g (M' := [(rb, 25, [.bool false, .slice none 0 0, .slice none 0 0])]) (by simp)
        rw [hg2]
        clear hg2 g
        revert g2
        intro g
        go_wp2_with (first | (with_reducible refine G.any_mark _ ?_; (try generalize Array.size (World.heap (G.w _)) = bk); (try dsimp only [List.set_cons_zero, List.set_cons_succ]); (try clear g); intro g) | (at_builtin; refine wpList_append_lit0 rfl _ _ 56 rfl 61 i0 _ 3 56 Tryz.underlying56 hi hz0 hz1 hz2 rfl (by decide) g rfl 1 rfl rfl HP1 (by decide) (by decide) (by decide) ?_; clear g; intro b cap cs g hb hrow))
        obtain ⟨g2, hg2⟩ := G.less g (M' := [(b, 61, cs), (rb, 25, [.bool false, .slice none 0 0, .slice none 0 0])]) (by simp)
        go_roundg 0
        case measure => omega
        case rel => exact .inr (⟨by simp, by simp, by simp, b, cap, cs, rfl, hrow, hb, g2, hg2⟩)
      · have hne : ((e1 : Int) == 0) = false := by rw [beq_eq_false_iff_ne]; exact hez
        have hne2 : ((e1 : Int) != 0) = true := by rw [bne, hne]; rfl
        have HEZ := Lib.hid hez
        clear hez
        go_wp2_with (with_reducible refine G.any_mark _ ?_; (try generalize Array.size (World.heap (G.w _)) = bk); (try dsimp only [List.set_cons_zero, List.set_cons_succ]); (try clear g); intro g)
        refine bodyPost_ret (v := .tuple #[.agg #[.bool false, .slice none 0 0, .slice none 0 0], .int .i64 e1]) (by simp [results, Tryz.results39, go_sem]) rfl ?_
        rw [← HRR.out, if_pos HEZ.out]
        exact rpe_err _ _
    · go_wp2_with (with_reducible refine G.any_mark _ ?_; (try generalize Array.size (World.heap (G.w _)) = bk); (try dsimp only [List.set_cons_zero, List.set_cons_succ]); (try clear g); intro g)
      refine (HF.out (by simp) _ b cap hrow.le ⟨row_at g (List.mem_cons_self ..) hrow (j := 0) rfl, row_at g (List.mem_cons_self ..) hrow (j := 1) rfl, row_at g (List.mem_cons_self ..) hrow (j := 2) rfl⟩ (G.sl g (by simp) H1.out) (G.sl g (by simp) J1.out) (G.tab g HT.out)).mono ?_
      rintro e w1 ⟨Z1, z1, R1, Z2, z2, R2, rfl, hz1, hz2, hn1, hn2⟩
      have ho1 := fun k o hk => Nat.le_trans (G.chg _).size (hn1.new k o hk)
      have ho2 := fun k o hk => Nat.le_trans (G.chg _).size (hn2.new k o hk)
      obtain ⟨g1, rfl⟩ := G.new2_ex _ hn1 hn2
      clear hn1 hn2
      (try clear g)
      revert g1
      intro g
      go_wp2_with (with_reducible refine G.any_mark _ ?_; (try generalize Array.size (World.heap (G.w _)) = bk); (try dsimp only [List.set_cons_zero, List.set_cons_succ]); (try clear g); intro g)
      refine bodyPost_ret (v := .tuple #[.agg #[.bool r.1, .slice Z1 (limbs r.2.1).length z1, .slice Z2 (limbs r.2.2.1).length z2], .int .i64 r.2.2.2]) (by simp [results, Tryz.results39, go_sem]) rfl ?_
      rw [← HRR.out, if_neg (by decide)]
      exact ⟨Z1, z1, R1, Z2, z2, R2, rfl, hz1, hz2, G.pass _ (by simp) ho1, G.pass _ (by simp) ho2⟩
set_option maxRecDepth 20000 in
set_option maxHeartbeats 4000000 in
theorem with_floor (lb : Nat) (r : Bool × Nat × Nat × Int) (s1 : Bool) (A1 B1 : Option Addr) (c1 k1 : Nat) (l1 m1 : List Nat) (w : World) (p1 : PtAt w lb 0 s1 A1 l1.length c1 B1 m1.length k1) (h1 : SlW w A1 c1 l1) (j1 : SlW w B1 k1 m1) (hT : Tab w)
    (hf : rchk s1 l1 m1 = 0 → ∀ (w' : World) (bF capF : Nat), 1 ≤ capF → FrAt w' bF 0 s1 A1 l1.length c1 B1 m1.length k1 → SlW w' A1 c1 l1 → SlW w' B1 k1 m1 → Tab w' → Calls Tryz.prog 78 #[.slice (some ⟨bF, 0, none⟩) 1 capF] w' (RPE r w')) :
    Calls Tryz.prog 39 #[.func (.func 78) #[] #[], .slice (some ⟨lb, 0, none⟩) 1 1] w (RPE (if rchk s1 l1 m1 ≠ 0 then (false, 0, 0, rchk s1 l1 m1) else r) w) := by
  refine calls_b fun g => ?_
  have CK1 := Lib.hid (fun w a b t => rcheck s1 A1 B1 c1 k1 l1 m1 w a b t)
  have CO1 := Lib.hid (fun w => of_any s1 A1 B1 c1 k1 l1.length m1.length w)
  have E10 := fun (M : List Blk) (g : G w [] M [heapOf w]) => G.old g (List.mem_cons_self ..) p1.c0
  have E11 := fun (M : List Blk) (g : G w [] M [heapOf w]) => G.old g (List.mem_cons_self ..) p1.c1
  have E12 := fun (M : List Blk) (g : G w [] M [heapOf w]) => G.old g (List.mem_cons_self ..) p1.c2
  have H1 := Lib.hid h1
  have J1 := Lib.hid j1
  obtain ⟨e1, he1⟩ : ∃ e, rchk s1 l1 m1 = e := ⟨_, rfl⟩
  rw [he1] at CK1 hf ⊢
  clear p1 h1 j1 he1
  have HF := Lib.hid hf
  have HT := Lib.hid hT
  obtain ⟨RR, hRR⟩ : ∃ RR, (if e1 ≠ 0 then (false, 0, 0, e1) else r) = RR := ⟨_, rfl⟩
  rw [hRR]
  have HRR := Lib.hid hRR
  clear hf hT hRR
  generalize l1.length = n1 at *
  generalize m1.length = d1 at *
  obtain ⟨i0, hi, hz0, hz1, hz2⟩ := info_parts infoFr
  have HP1 := pts_one s1 A1 n1 c1 B1 d1 k1
  go_enter Tryz.func39, Tryz.ntmps39
  go_wp2_with (with_reducible refine G.any_mark _ ?_; (try generalize Array.size (World.heap (G.w _)) = bk); (try dsimp only [List.set_cons_zero, List.set_cons_succ]); (try clear g); intro g)
  obtain ⟨rb, rfl⟩ : ∃ rb, rb = bk := ⟨_, rfl⟩
  go_loopg [6, 12] 1 (fun gk s6 s12 wr => (gk = 1 ∧ s12 = .int .i64 0 ∧ s6 = .slice none 0 0 ∧ ∃ g : G w [] [(rb, 25, [.bool false, .slice none 0 0, .slice none 0 0])] [heapOf w], wr = g.w) ∨ (gk = 0 ∧ s12 = .int .i64 1 ∧ e1 = 0 ∧ ∃ b cap cs, s6 = .slice (some ⟨b, 0, none⟩) 1 cap ∧ Row 61 3 1 ([Value.bool s1, .slice A1 n1 c1, .slice B1 d1 k1]) cap cs ∧ w.heap.size ≤ b ∧ ∃ g : G w [] [(b, 61, cs), (rb, 25, [.bool false, .slice none 0 0, .slice none 0 0])] [heapOf w], wr = g.w))
  case atStart => exact .inl ⟨rfl, rfl, rfl, g, rfl⟩
  case round =>
    clear g
    rcases hrel with ⟨rfl, rfl, rfl, g, rfl⟩ | ⟨rfl, rfl, rfl, b, cap, cs, rfl, hrow, hbw, g, rfl⟩
    · go_wp2_with (with_reducible refine G.any_mark _ ?_; (try generalize Array.size (World.heap (G.w _)) = bk); (try dsimp only [List.set_cons_zero, List.set_cons_succ]); (try clear g); intro g)
      (try (refine cmark _ ?_; (try dsimp only [List.set_cons_zero, List.set_cons_succ]); (try clear g); intro g))
      refine (CK1.out _ (G.sl g (by simp) H1.out) (G.sl g (by simp) J1.out) (G.tab g HT.out)).mono ?_
      rintro e w1 ⟨rfl, hb⟩
      obtain ⟨g1, rfl⟩ := G.call_ex _ hb
      clear hb
      (try clear g)
      revert g1
      intro g
      by_cases hez : e1 = 0
      · subst hez
        go_wp2_with (with_reducible refine G.any_mark _ ?_; (try generalize Array.size (World.heap (G.w _)) = bk); (try dsimp only [List.set_cons_zero, List.set_cons_succ]); (try clear g); intro g)
        refine (CO1.out _).mono ?_
        rintro e w1 ⟨rfl, hb⟩
        obtain ⟨g1, rfl⟩ := G.call_ex _ hb
        clear hb
        (try clear g)
        revert g1
        intro g
        obtain ⟨g2, hg2⟩ := G.less g (M' := [(rb, 25, [.bool false, .slice none 0 0, .slice none 0 0])]) (by simp)
        rw [hg2]
        clear hg2 g
        revert g2
        intro g
        go_wp2_with (first | (with_reducible refine G.any_mark _ ?_; (try generalize Array.size (World.heap (G.w _)) = bk); (try dsimp only [List.set_cons_zero, List.set_cons_succ]); (try clear g); intro g) | (at_builtin; refine wpList_append_lit0 rfl _ _ 56 rfl 61 i0 _ 3 56 Tryz.underlying56 hi hz0 hz1 hz2 rfl (by decide) g rfl 1 rfl rfl HP1 (by decide) (by decide) (by decide) ?_; clear g; intro b cap cs g hb hrow))
        obtain ⟨g2, hg2⟩ := G.less g (M' := [(b, 61, cs), (rb, 25, [.bool false, .slice none 0 0, .slice none 0 0])]) (by simp)
        go_roundg 0
        case measure => omega
        case rel => exact .inr (⟨by simp, by simp, by simp, b, cap, cs, rfl, hrow, hb, g2, hg2⟩)
      · have hne : ((e1 : Int) == 0) = false := by rw [beq_eq_false_iff_ne]; exact hez
        have hne2 : ((e1 : Int) != 0) = true := by rw [bne, hne]; rfl
        have HEZ := Lib.hid hez
        clear hez
        go_wp2_with (with_reducible refine G.any_mark _ ?_; (try generalize Array.size (World.heap (G.w _)) = bk); (try dsimp only [List.set_cons_zero, List.set_cons_succ]); (try clear g); intro g)
        refine bodyPost_ret (v := .tuple #[.agg #[.bool false, .slice none 0 0, .slice none 0 0], .int .i64 e1]) (by simp [results, Tryz.results39, go_sem]) rfl ?_
        rw [← HRR.out, if_pos HEZ.out]
        exact rpe_err _ _
    · go_wp2_with (with_reducible refine G.any_mark _ ?_; (try generalize Array.size (World.heap (G.w _)) = bk); (try dsimp only [List.set_cons_zero, List.set_cons_succ]); (try clear g); intro g)
      refine (HF.out (by simp) _ b cap hrow.le ⟨row_at g (List.mem_cons_self ..) hrow (j := 0) rfl, row_at g (List.mem_cons_self ..) hrow (j := 1) rfl, row_at g (List.mem_cons_self ..) hrow (j := 2) rfl⟩ (G.sl g (by simp) H1.out) (G.sl g (by simp) J1.out) (G.tab g HT.out)).mono ?_
      rintro e w1 ⟨Z1, z1, R1, Z2, z2, R2, rfl, hz1, hz2, hn1, hn2⟩
      have ho1 := fun k o hk => Nat.le_trans (G.chg _).size (hn1.new k o hk)
      have ho2 := fun k o hk => Nat.le_trans (G.chg _).size (hn2.new k o hk)
      obtain ⟨g1, rfl⟩ := G.new2_ex _ hn1 hn2
      clear hn1 hn2
      (try clear g)
      revert g1
      intro g
      go_wp2_with (with_reducible refine G.any_mark _ ?_; (try generalize Array.size (World.heap (G.w _)) = bk); (try dsimp only [List.set_cons_zero, List.set_cons_succ]); (try clear g); intro g)
      refine bodyPost_ret (v := .tuple #[.agg #[.bool r.1, .slice Z1 (limbs r.2.1).length z1, .slice Z2 (limbs r.2.2.1).length z2], .int .i64 r.2.2.2]) (by simp [results, Tryz.results39, go_sem]) rfl ?_
      rw [← HRR.out, if_neg (by decide)]
      exact ⟨Z1, z1, R1, Z2, z2, R2, rfl, hz1, hz2, G.pass _ (by simp) ho1, G.pass _ (by simp) ho2⟩
set_option maxRecDepth 20000 in
set_option maxHeartbeats 4000000 in
theorem with_round (lb : Nat) (r : Bool × Nat × Nat × Int) (s1 : Bool) (A1 B1 : Option Addr) (c1 k1 : Nat) (l1 m1 : List Nat) (w : World) (p1 : PtAt w lb 0 s1 A1 l1.length c1 B1 m1.length k1) (h1 : SlW w A1 c1 l1) (j1 : SlW w B1 k1 m1) (hT : Tab w)
    (hf : rchk s1 l1 m1 = 0 → ∀ (w' : World) (bF capF : Nat), 1 ≤ capF → FrAt w' bF 0 s1 A1 l1.length c1 B1 m1.length k1 → SlW w' A1 c1 l1 → SlW w' B1 k1 m1 → Tab w' → Calls Tryz.prog 80 #[.slice (some ⟨bF, 0, none⟩) 1 capF] w' (RPE r w')) :
    Calls Tryz.prog 39 #[.func (.func 80) #[] #[], .slice (some ⟨lb, 0, none⟩) 1 1] w (RPE (if rchk s1 l1 m1 ≠ 0 then (false, 0, 0, rchk s1 l1 m1) else r) w) := by
  refine calls_b fun g => ?_
  have CK1 := Lib.hid (fun w a b t => rcheck s1 A1 B1 c1 k1 l1 m1 w a b t)
  have CO1 := Lib.hid (fun w => of_any s1 A1 B1 c1 k1 l1.length m1.length w)
  have E10 := fun (M : List Blk) (g : G w [] M [heapOf w]) => G.old g (List.mem_cons_self ..) p1.c0
  have E11 := fun (M : List Blk) (g : G w [] M [heapOf w]) => G.old g (List.mem_cons_self ..) p1.c1
  have E12 := fun (M : List Blk) (g : G w [] M [heapOf w]) => G.old g (List.mem_cons_self ..) p1.c2
  have H1 := Lib.hid h1
  have J1 := Lib.hid j1
  obtain ⟨e1, he1⟩ : ∃ e, rchk s1 l1 m1 = e := ⟨_, rfl⟩
  rw [he1] at CK1 hf ⊢
  clear p1 h1 j1 he1
  have HF := Lib.hid hf
  have HT := Lib.hid hT
  obtain ⟨RR, hRR⟩ : ∃ RR, (if e1 ≠ 0 then (false, 0, 0, e1) else r) = RR := ⟨_, rfl⟩
  rw [hRR]
  have HRR := Lib.hid hRR
  clear hf hT hRR
  generalize l1.length = n1 at *
  generalize m1.length = d1 at *
  obtain ⟨i0, hi, hz0, hz1, hz2⟩ := info_parts infoFr
  have HP1 := pts_one s1 A1 n1 c1 B1 d1 k1
  go_enter Tryz.func39, Tryz.ntmps39
  go_wp2_with (with_reducible refine G.any_mark _ ?_; (try generalize Array.size (World.heap (G.w _)) = bk); (try dsimp only [List.set_cons_zero, List.set_cons_succ]); (try clear g); intro g)
  obtain ⟨rb, rfl⟩ : ∃ rb, rb = bk := ⟨_, rfl⟩
  go_loopg [6, 12] 1 (fun gk s6 s12 wr => (gk = 1 ∧ s12 = .int .i64 0 ∧ s6 = .slice none 0 0 ∧ ∃ g : G w [] [(rb, 25, [.bool false, .slice none 0 0, .slice none 0 0])] [heapOf w], wr = g.w) ∨ (gk = 0 ∧ s12 = .int .i64 1 ∧ e1 = 0 ∧ ∃ b cap cs, s6 = .slice (some ⟨b, 0, none⟩) 1 cap ∧ Row 61 3 1 ([Value.bool s1, .slice A1 n1 c1, .slice B1 d1 k1]) cap cs ∧ w.heap.size ≤ b ∧ ∃ g : G w [] [(b, 61, cs), (rb, 25, [.bool false, .slice none 0 0, .slice none 0 0])] [heapOf w], wr = g.w))
  case atStart => exact .inl ⟨rfl, rfl, rfl, g, rfl⟩
  case round =>
    clear g
    rcases hrel with ⟨rfl, rfl, rfl, g, rfl⟩ | ⟨rfl, rfl, rfl, b, cap, cs, rfl, hrow, hbw, g, rfl⟩
    · go_wp2_with (with_reducible refine G.any_mark _ ?_; (try generalize Array.size (World.heap (G.w _)) = bk); (try dsimp only [List.set_cons_zero, List.set_cons_succ]); (try clear g); intro g)
      (try (refine cmark _ ?_; (try dsimp only [List.set_cons_zero, List.set_cons_succ]); (try clear g); intro g))
      refine (CK1.out _ (G.sl g (by simp) H1.out) (G.sl g (by simp) J1.out) (G.tab g HT.out)).mono ?_
      rintro e w1 ⟨rfl, hb⟩
      obtain ⟨g1, rfl⟩ := G.call_ex _ hb
      clear hb
      (try clear g)
      revert g1
      intro g
      by_cases hez : e1 = 0
      · subst hez
        go_wp2_with (with_reducible refine G.any_mark _ ?_; (try generalize Array.size (World.heap (G.w _)) = bk); (try dsimp only [List.set_cons_zero, List.set_cons_succ]); (try clear g); intro g)
        refine (CO1.out _).mono ?_
        rintro e w1 ⟨rfl, hb⟩
        obtain ⟨g1, rfl⟩ := G.call_ex _ hb
        clear hb
        (try clear g)
        revert g1
        intro g
        obtain ⟨g2, hg2⟩ := G.less g (M' := [(rb, 25, [.bool false, .slice none 0 0, .slice none 0 0])]) (by simp)
        rw [hg2]
        clear hg2 g
        revert g2
        intro g
        go_wp2_with (first | (with_reducible refine G.any_mark _ ?_; (try generalize Array.size (World.heap (G.w _)) = bk); (try dsimp only [List.set_cons_zero, List.set_cons_succ]); (try clear g); intro g) | (at_builtin; refine wpList_append_lit0 rfl _ _ 56 rfl 61 i0 _ 3 56 Tryz.underlying56 hi hz0 hz1 hz2 rfl (by decide) g rfl 1 rfl rfl HP1 (by decide) (by decide) (by decide) ?_; clear g; intro b cap cs g hb hrow))
        obtain ⟨g2, hg2⟩ := G.less g (M' := [(b, 61, cs), (rb, 25, [.bool false, .slice none 0 0, .slice none 0 0])]) (by simp)
        go_roundg 0
        case measure => omega
        case rel => exact .inr (⟨by simp, by simp, by simp, b, cap, cs, rfl, hrow, hb, g2, hg2⟩)
      · have hne : ((e1 : Int) == 0) = false := by rw [beq_eq_false_iff_ne]; exact hez
        have hne2 : ((e1 : Int) != 0) = true := by rw [bne, hne]; rfl
        have HEZ := Lib.hid hez
        clear hez
        go_wp2_with (with_reducible refine G.any_mark _ ?_; (try generalize Array.size (World.heap (G.w _)) = bk); (try dsimp only [List.set_cons_zero, List.set_cons_succ]); (try clear g); intro g)
        refine bodyPost_ret (v := .tuple #[.agg #[.bool false, .slice none 0 0, .slice none 0 0], .int .i64 e1]) (by simp [results, Tryz.results39, go_sem]) rfl ?_
        rw [← HRR.out, if_pos HEZ.out]
        exact rpe_err _ _
    · go_wp2_with (with_reducible refine G.any_mark _ ?_; (try generalize Array.size (World.heap (G.w _)) = bk); (try dsimp only [List.set_cons_zero, List.set_cons_succ]); (try clear g); intro g)
      refine (HF.out (by simp) _ b cap hrow.le ⟨row_at g (List.mem_cons_self ..) hrow (j := 0) rfl, row_at g (List.mem_cons_self ..) hrow (j := 1) rfl, row_at g (List.mem_cons_self ..) hrow (j := 2) rfl⟩ (G.sl g (by simp) H1.out) (G.sl g (by simp) J1.out) (G.tab g HT.out)).mono ?_
      rintro e w1 ⟨Z1, z1, R1, Z2, z2, R2, rfl, hz1, hz2, hn1, hn2⟩
      have ho1 := fun k o hk => Nat.le_trans (G.chg _).size (hn1.new k o hk)
      have ho2 := fun k o hk => Nat.le_trans (G.chg _).size (hn2.new k o hk)
      obtain ⟨g1, rfl⟩ := G.new2_ex _ hn1 hn2
      clear hn1 hn2
      (try clear g)
      revert g1
      intro g
      go_wp2_with (with_reducible refine G.any_mark _ ?_; (try generalize Array.size (World.heap (G.w _)) = bk); (try dsimp only [List.set_cons_zero, List.set_cons_succ]); (try clear g); intro g)
      refine bodyPost_ret (v := .tuple #[.agg #[.bool r.1, .slice Z1 (limbs r.2.1).length z1, .slice Z2 (limbs r.2.2.1).length z2], .int .i64 r.2.2.2]) (by simp [results, Tryz.results39, go_sem]) rfl ?_
      rw [← HRR.out, if_neg (by decide)]
      exact ⟨Z1, z1, R1, Z2, z2, R2, rfl, hz1, hz2, G.pass _ (by simp) ho1, G.pass _ (by simp) ho2⟩
set_option maxRecDepth 20000 in
set_option maxHeartbeats 4000000 in
theorem with_add (lb : Nat) (r : Bool × Nat × Nat × Int) (s1 : Bool) (A1 B1 : Option Addr) (c1 k1 : Nat) (l1 m1 : List Nat) (s2 : Bool) (A2 B2 : Option Addr) (c2 k2 : Nat) (l2 m2 : List Nat) (w : World) (p1 : PtAt w lb 0 s1 A1 l1.length c1 B1 m1.length k1) (h1 : SlW w A1 c1 l1) (j1 : SlW w B1 k1 m1) (p2 : PtAt w lb 3 s2 A2 l2.length c2 B2 m2.length k2) (h2 : SlW w A2 c2 l2) (j2 : SlW w B2 k2 m2) (hT : Tab w)
    (hf : rchk s1 l1 m1 = 0 → rchk s2 l2 m2 = 0 → ∀ (w' : World) (bF capF : Nat), 2 ≤ capF → FrAt w' bF 0 s1 A1 l1.length c1 B1 m1.length k1 → FrAt w' bF 3 s2 A2 l2.length c2 B2 m2.length k2 → SlW w' A1 c1 l1 → SlW w' B1 k1 m1 → SlW w' A2 c2 l2 → SlW w' B2 k2 m2 → Tab w' → Calls Tryz.prog 44 #[.slice (some ⟨bF, 0, none⟩) 2 capF] w' (RPE r w')) :
    Calls Tryz.prog 39 #[.func (.func 44) #[] #[], .slice (some ⟨lb, 0, none⟩) 2 2] w (RPE (if rchk s1 l1 m1 ≠ 0 then (false, 0, 0, rchk s1 l1 m1) else if rchk s2 l2 m2 ≠ 0 then (false, 0, 0, rchk s2 l2 m2) else r) w) := by
  refine calls_b fun g => ?_
  have CK1 := Lib.hid (fun w a b t => rcheck s1 A1 B1 c1 k1 l1 m1 w a b t)
  have CO1 := Lib.hid (fun w => of_any s1 A1 B1 c1 k1 l1.length m1.length w)
  have E10 := fun (M : List Blk) (g : G w [] M [heapOf w]) => G.old g (List.mem_cons_self ..) p1.c0
  have E11 := fun (M : List Blk) (g : G w [] M [heapOf w]) => G.old g (List.mem_cons_self ..) p1.c1
  have E12 := fun (M : List Blk) (g : G w [] M [heapOf w]) => G.old g (List.mem_cons_self ..) p1.c2
  have H1 := Lib.hid h1
  have J1 := Lib.hid j1
  obtain ⟨e1, he1⟩ : ∃ e, rchk s1 l1 m1 = e := ⟨_, rfl⟩
  rw [he1] at CK1 hf ⊢
  clear p1 h1 j1 he1
  have CK2 := Lib.hid (fun w a b t => rcheck s2 A2 B2 c2 k2 l2 m2 w a b t)
  have CO2 := Lib.hid (fun w => of_any s2 A2 B2 c2 k2 l2.length m2.length w)
  have E20 := fun (M : List Blk) (g : G w [] M [heapOf w]) => G.old g (List.mem_cons_self ..) p2.c0
  have E21 := fun (M : List Blk) (g : G w [] M [heapOf w]) => G.old g (List.mem_cons_self ..) p2.c1
  have E22 := fun (M : List Blk) (g : G w [] M [heapOf w]) => G.old g (List.mem_cons_self ..) p2.c2
  have H2 := Lib.hid h2
  have J2 := Lib.hid j2
  obtain ⟨e2, he2⟩ : ∃ e, rchk s2 l2 m2 = e := ⟨_, rfl⟩
  rw [he2] at CK2 hf ⊢
  clear p2 h2 j2 he2
  have HF := Lib.hid hf
  have HT := Lib.hid hT
  obtain ⟨RR, hRR⟩ : ∃ RR, (if e1 ≠ 0 then (false, 0, 0, e1) else if e2 ≠ 0 then (false, 0, 0, e2) else r) = RR := ⟨_, rfl⟩
  rw [hRR]
  have HRR := Lib.hid hRR
  clear hf hT hRR
  generalize l1.length = n1 at *
  generalize m1.length = d1 at *
  generalize l2.length = n2 at *
  generalize m2.length = d2 at *
  obtain ⟨i0, hi, hz0, hz1, hz2⟩ := info_parts infoFr
  have HP1 := pts_one s1 A1 n1 c1 B1 d1 k1
  have HP2 := pts_one s2 A2 n2 c2 B2 d2 k2
  go_enter Tryz.func39, Tryz.ntmps39
  go_wp2_with (with_reducible refine G.any_mark _ ?_; (try generalize Array.size (World.heap (G.w _)) = bk); (try dsimp only [List.set_cons_zero, List.set_cons_succ]); (try clear g); intro g)
  obtain ⟨rb, rfl⟩ : ∃ rb, rb = bk := ⟨_, rfl⟩
  go_loopg [6, 12] 2 (fun gk s6 s12 wr => (gk = 2 ∧ s12 = .int .i64 0 ∧ s6 = .slice none 0 0 ∧ ∃ g : G w [] [(rb, 25, [.bool false, .slice none 0 0, .slice none 0 0])] [heapOf w], wr = g.w) ∨ (gk = 1 ∧ s12 = .int .i64 1 ∧ e1 = 0 ∧ ∃ b cap cs, s6 = .slice (some ⟨b, 0, none⟩) 1 cap ∧ Row 61 3 1 ([Value.bool s1, .slice A1 n1 c1, .slice B1 d1 k1]) cap cs ∧ w.heap.size ≤ b ∧ ∃ g : G w [] [(b, 61, cs), (rb, 25, [.bool false, .slice none 0 0, .slice none 0 0])] [heapOf w], wr = g.w) ∨ (gk = 0 ∧ s12 = .int .i64 2 ∧ e1 = 0 ∧ e2 = 0 ∧ ∃ b cap cs, s6 = .slice (some ⟨b, 0, none⟩) 2 cap ∧ Row 61 3 2 ([Value.bool s1, .slice A1 n1 c1, .slice B1 d1 k1] ++ [Value.bool s2, .slice A2 n2 c2, .slice B2 d2 k2]) cap cs ∧ w.heap.size ≤ b ∧ ∃ g : G w [] [(b, 61, cs), (rb, 25, [.bool false, .slice none 0 0, .slice none 0 0])] [heapOf w], wr = g.w))
  case atStart => exact .inl ⟨rfl, rfl, rfl, g, rfl⟩
  case round =>
    clear g
    rcases hrel with ⟨rfl, rfl, rfl, g, rfl⟩ | ⟨rfl, rfl, rfl, b, cap, cs, rfl, hrow, hbw, g, rfl⟩ | ⟨rfl, rfl, rfl, rfl, b, cap, cs, rfl, hrow, hbw, g, rfl⟩
    · go_wp2_with (with_reducible refine G.any_mark _ ?_; (try generalize Array.size (World.heap (G.w _)) = bk); (try dsimp only [List.set_cons_zero, List.set_cons_succ]); (try clear g); intro g)
      (try (refine cmark _ ?_; (try dsimp only [List.set_cons_zero, List.set_cons_succ]); (try clear g); intro g))
      refine (CK1.out _ (G.sl g (by simp) H1.out) (G.sl g (by simp) J1.out) (G.tab g HT.out)).mono ?_
      rintro e w1 ⟨rfl, hb⟩
      obtain ⟨g1, rfl⟩ := G.call_ex _ hb
      clear hb
      (try clear g)
      revert g1
      intro g
      by_cases hez : e1 = 0
      · subst hez
        go_wp2_with (with_reducible refine G.any_mark _ ?_; (try generalize Array.size (World.heap (G.w _)) = bk); (try dsimp only [List.set_cons_zero, List.set_cons_succ]); (try clear g); intro g)
        refine (CO1.out _).mono ?_
        rintro e w1 ⟨rfl, hb⟩
        obtain ⟨g1, rfl⟩ := G.call_ex _ hb
        clear hb
        (try clear g)
        revert g1
        intro g
        obtain ⟨g2, hg2⟩ := G.less g (M' := [(rb, 25, [.bool false, .slice none 0 0, .slice none 0 0])]) (by simp)
        rw [hg2]
        clear hg2 g
        revert g2
        intro g
        go_wp2_with (first | (with_reducible refine G.any_mark _ ?_; (try generalize Array.size (World.heap (G.w _)) = bk); (try dsimp only [List.set_cons_zero, List.set_cons_succ]); (try clear g); intro g) | (at_builtin; refine wpList_append_lit0 rfl _ _ 56 rfl 61 i0 _ 3 56 Tryz.underlying56 hi hz0 hz1 hz2 rfl (by decide) g rfl 1 rfl rfl HP1 (by decide) (by decide) (by decide) ?_; clear g; intro b cap cs g hb hrow))
        obtain ⟨g2, hg2⟩ := G.less g (M' := [(b, 61, cs), (rb, 25, [.bool false, .slice none 0 0, .slice none 0 0])]) (by simp)
        go_roundg 1
        case measure => omega
        case rel => exact .inr (.inl ⟨by simp, by simp, by simp, b, cap, cs, rfl, hrow, hb, g2, hg2⟩)
      · have hne : ((e1 : Int) == 0) = false := by rw [beq_eq_false_iff_ne]; exact hez
        have hne2 : ((e1 : Int) != 0) = true := by rw [bne, hne]; rfl
        have HEZ := Lib.hid hez
        clear hez
        go_wp2_with (with_reducible refine G.any_mark _ ?_; (try generalize Array.size (World.heap (G.w _)) = bk); (try dsimp only [List.set_cons_zero, List.set_cons_succ]); (try clear g); intro g)
        refine bodyPost_ret (v := .tuple #[.agg #[.bool false, .slice none 0 0, .slice none 0 0], .int .i64 e1]) (by simp [results, Tryz.results39, go_sem]) rfl ?_
        rw [← HRR.out, if_pos HEZ.out]
        exact rpe_err _ _
    · go_wp2_with (with_reducible refine G.any_mark _ ?_; (try generalize Array.size (World.heap (G.w _)) = bk); (try dsimp only [List.set_cons_zero, List.set_cons_succ]); (try clear g); intro g)
      (try (refine cmark _ ?_; (try dsimp only [List.set_cons_zero, List.set_cons_succ]); (try clear g); intro g))
      refine (CK2.out _ (G.sl g (by simp) H2.out) (G.sl g (by simp) J2.out) (G.tab g HT.out)).mono ?_
      rintro e w1 ⟨rfl, hb⟩
      obtain ⟨g1, rfl⟩ := G.call_ex _ hb
      clear hb
      (try clear g)
      revert g1
      intro g
      by_cases hez : e2 = 0
      · subst hez
        go_wp2_with (with_reducible refine G.any_mark _ ?_; (try generalize Array.size (World.heap (G.w _)) = bk); (try dsimp only [List.set_cons_zero, List.set_cons_succ]); (try clear g); intro g)
        refine (CO2.out _).mono ?_
        rintro e w1 ⟨rfl, hb⟩
        obtain ⟨g1, rfl⟩ := G.call_ex _ hb
        clear hb
        (try clear g)
        revert g1
        intro g
        obtain ⟨g2, hg2⟩ := G.less g (M' := [(b, 61, cs), (rb, 25, [.bool false, .slice none 0 0, .slice none 0 0])]) (by simp)
        rw [hg2]
        clear hg2 g
        revert g2
        intro g
        go_wp2_with (first | (with_reducible refine G.any_mark _ ?_; (try generalize Array.size (World.heap (G.w _)) = bk); (try dsimp only [List.set_cons_zero, List.set_cons_succ]); (try clear g); intro g) | (at_builtin; refine wpList_append_lit rfl _ _ 56 rfl 61 i0 _ 3 56 Tryz.underlying56 hi hz0 hz1 hz2 rfl (by decide) g hrow hbw rfl 1 rfl rfl HP2 (by decide) (by decide) (by decide) ?_; clear hrow hbw g; intro b cap cs g hb hrow))
        obtain ⟨g2, hg2⟩ := G.less g (M' := [(b, 61, cs), (rb, 25, [.bool false, .slice none 0 0, .slice none 0 0])]) (by simp)
        go_roundg 0
        case measure => omega
        case rel => exact .inr (.inr (⟨by simp, by simp, by simp, by simp, b, cap, cs, rfl, hrow, hb, g2, hg2⟩))
      · have hne : ((e2 : Int) == 0) = false := by rw [beq_eq_false_iff_ne]; exact hez
        have hne2 : ((e2 : Int) != 0) = true := by rw [bne, hne]; rfl
        have HEZ := Lib.hid hez
        clear hez
        go_wp2_with (with_reducible refine G.any_mark _ ?_; (try generalize Array.size (World.heap (G.w _)) = bk); (try dsimp only [List.set_cons_zero, List.set_cons_succ]); (try clear g); intro g)
        refine bodyPost_ret (v := .tuple #[.agg #[.bool false, .slice none 0 0, .slice none 0 0], .int .i64 e2]) (by simp [results, Tryz.results39, go_sem]) rfl ?_
        rw [← HRR.out, if_neg (by decide), if_pos HEZ.out]
        exact rpe_err _ _
    · go_wp2_with (with_reducible refine G.any_mark _ ?_; (try generalize Array.size (World.heap (G.w _)) = bk); (try dsimp only [List.set_cons_zero, List.set_cons_succ]); (try clear g); intro g)
      refine (HF.out (by simp) (by simp) _ b cap hrow.le ⟨row_at g (List.mem_cons_self ..) hrow (j := 0) rfl, row_at g (List.mem_cons_self ..) hrow (j := 1) rfl, row_at g (List.mem_cons_self ..) hrow (j := 2) rfl⟩ ⟨row_at g (List.mem_cons_self ..) hrow (j := 3) rfl, row_at g (List.mem_cons_self ..) hrow (j := 4) rfl, row_at g (List.mem_cons_self ..) hrow (j := 5) rfl⟩ (G.sl g (by simp) H1.out) (G.sl g (by simp) J1.out) (G.sl g (by simp) H2.out) (G.sl g (by simp) J2.out) (G.tab g HT.out)).mono ?_
      rintro e w1 ⟨Z1, z1, R1, Z2, z2, R2, rfl, hz1, hz2, hn1, hn2⟩
      have ho1 := fun k o hk => Nat.le_trans (G.chg _).size (hn1.new k o hk)
      have ho2 := fun k o hk => Nat.le_trans (G.chg _).size (hn2.new k o hk)
      obtain ⟨g1, rfl⟩ := G.new2_ex _ hn1 hn2
      clear hn1 hn2
      (try clear g)
      revert g1
      intro g
      go_wp2_with (with_reducible refine G.any_mark _ ?_; (try generalize Array.size (World.heap (G.w _)) = bk); (try dsimp only [List.set_cons_zero, List.set_cons_succ]); (try clear g); intro g)
      refine bodyPost_ret (v := .tuple #[.agg #[.bool r.1, .slice Z1 (limbs r.2.1).length z1, .slice Z2 (limbs r.2.2.1).length z2], .int .i64 r.2.2.2]) (by simp [results, Tryz.results39, go_sem]) rfl ?_
      rw [← HRR.out, if_neg (by decide), if_neg (by decide)]
      exact ⟨Z1, z1, R1, Z2, z2, R2, rfl, hz1, hz2, G.pass _ (by simp) ho1, G.pass _ (by simp) ho2⟩
set_option maxRecDepth 20000 in
set_option maxHeartbeats 4000000 in
theorem with_sub (lb : Nat) (r : Bool × Nat × Nat × Int) (s1 : Bool) (A1 B1 : Option Addr) (c1 k1 : Nat) (l1 m1 : List Nat) (s2 : Bool) (A2 B2 : Option Addr) (c2 k2 : Nat) (l2 m2 : List Nat) (w : World) (p1 : PtAt w lb 0 s1 A1 l1.length c1 B1 m1.length k1) (h1 : SlW w A1 c1 l1) (j1 : SlW w B1 k1 m1) (p2 : PtAt w lb 3 s2 A2 l2.length c2 B2 m2.length k2) (h2 : SlW w A2 c2 l2) (j2 : SlW w B2 k2 m2) (hT : Tab w)
    (hf : rchk s1 l1 m1 = 0 → rchk s2 l2 m2 = 0 → ∀ (w' : World) (bF capF : Nat), 2 ≤ capF → FrAt w' bF 0 s1 A1 l1.length c1 B1 m1.length k1 → FrAt w' bF 3 s2 A2 l2.length c2 B2 m2.length k2 → SlW w' A1 c1 l1 → SlW w' B1 k1 m1 → SlW w' A2 c2 l2 → SlW w' B2 k2 m2 → Tab w' → Calls Tryz.prog 49 #[.slice (some ⟨bF, 0, none⟩) 2 capF] w' (RPE r w')) :
    Calls Tryz.prog 39 #[.func (.func 49) #[] #[], .slice (some ⟨lb, 0, none⟩) 2 2] w (RPE (if rchk s1 l1 m1 ≠ 0 then (false, 0, 0, rchk s1 l1 m1) else if rchk s2 l2 m2 ≠ 0 then (false, 0, 0, rchk s2 l2 m2) else r) w) := by
  refine calls_b fun g => ?_
  have CK1 := Lib.hid (fun w a b t => rcheck s1 A1 B1 c1 k1 l1 m1 w a b t)
  have CO1 := Lib.hid (fun w => of_any s1 A1 B1 c1 k1 l1.length m1.length w)
  have E10 := fun (M : List Blk) (g : G w [] M [heapOf w]) => G.old g (List.mem_cons_self ..) p1.c0
  have E11 := fun (M : List Blk) (g : G w [] M [heapOf w]) => G.old g (List.mem_cons_self ..) p1.c1
  have E12 := fun (M : List Blk) (g : G w [] M [heapOf w]) => G.old g (List.mem_cons_self ..) p1.c2
  have H1 := Lib.hid h1
  have J1 := Lib.hid j1
  obtain ⟨e1, he1⟩ : ∃ e, rchk s1 l1 m1 = e := ⟨_, rfl⟩
  rw [he1] at CK1 hf ⊢
  clear p1 h1 j1 he1
  have CK2 := Lib.hid (fun w a b t => rcheck s2 A2 B2 c2 k2 l2 m2 w a b t)
  have CO2 := Lib.hid (fun w => of_any s2 A2 B2 c2 k2 l2.length m2.length w)
  have E20 := fun (M : List Blk) (g : G w [] M [heapOf w]) => G.old g (List.mem_cons_self ..) p2.c0
  have E21 := fun (M : List Blk) (g : G w [] M [heapOf w]) => G.old g (List.mem_cons_self ..) p2.c1
  have E22 := fun (M : List Blk) (g : G w [] M [heapOf w]) => G.old g (List.mem_cons_self ..) p2.c2
  have H2 := Lib.hid h2
  have J2 := Lib.hid j2
  obtain ⟨e2, he2⟩ : ∃ e, rchk s2 l2 m2 = e := ⟨_, rfl⟩
  rw [he2] at CK2 hf ⊢
  clear p2 h2 j2 he2
  have HF := Lib.hid hf
  have HT := Lib.hid hT
  obtain ⟨RR, hRR⟩ : ∃ RR, (if e1 ≠ 0 then (false, 0, 0, e1) else if e2 ≠ 0 then (false, 0, 0, e2) else r) = RR := ⟨_, rfl⟩
  rw [hRR]
  have HRR := Lib.hid hRR
  clear hf hT hRR
  generalize l1.length = n1 at *
  generalize m1.length = d1 at *
  generalize l2.length = n2 at *
  generalize m2.length = d2 at *
  obtain ⟨i0, hi, hz0, hz1, hz2⟩ := info_parts infoFr
  have HP1 := pts_one s1 A1 n1 c1 B1 d1 k1
  have HP2 := pts_one s2 A2 n2 c2 B2 d2 k2
  go_enter Tryz.func39, Tryz.ntmps39
  go_wp2_with (with_reducible refine G.any_mark _ ?_; (try generalize Array.size (World.heap (G.w _)) = bk); (try dsimp only [List.set_cons_zero, List.set_cons_succ]); (try clear g); intro g)
  obtain ⟨rb, rfl⟩ : ∃ rb, rb = bk := ⟨_, rfl⟩
  go_loopg [6, 12] 2 (fun gk s6 s12 wr => (gk = 2 ∧ s12 = .int .i64 0 ∧ s6 = .slice none 0 0 ∧ ∃ g : G w [] [(rb, 25, [.bool false, .slice none 0 0, .slice none 0 0])] [heapOf w], wr = g.w) ∨ (gk = 1 ∧ s12 = .int .i64 1 ∧ e1 = 0 ∧ ∃ b cap cs, s6 = .slice (some ⟨b, 0, none⟩) 1 cap ∧ Row 61 3 1 ([Value.bool s1, .slice A1 n1 c1, .slice B1 d1 k1]) cap cs ∧ w.heap.size ≤ b ∧ ∃ g : G w [] [(b, 61, cs), (rb, 25, [.bool false, .slice none 0 0, .slice none 0 0])] [heapOf w], wr = g.w) ∨ (gk = 0 ∧ s12 = .int .i64 2 ∧ e1 = 0 ∧ e2 = 0 ∧ ∃ b cap cs, s6 = .slice (some ⟨b, 0, none⟩) 2 cap ∧ Row 61 3 2 ([Value.bool s1, .slice A1 n1 c1, .slice B1 d1 k1] ++ [Value.bool s2, .slice A2 n2 c2, .slice B2 d2 k2]) cap cs ∧ w.heap.size ≤ b ∧ ∃ g : G w [] [(b, 61, cs), (rb, 25, [.bool false, .slice none 0 0, .slice none 0 0])] [heapOf w], wr = g.w))
  case atStart => exact .inl ⟨rfl, rfl, rfl, g, rfl⟩
  case round =>
    clear g
    rcases hrel with ⟨rfl, rfl, rfl, g, rfl⟩ | ⟨rfl, rfl, rfl, b, cap, cs, rfl, hrow, hbw, g, rfl⟩ | ⟨rfl, rfl, rfl, rfl, b, cap, cs, rfl, hrow, hbw, g, rfl⟩
    · go_wp2_with (with_reducible refine G.any_mark _ ?_; (try generalize Array.size (World.heap (G.w _)) = bk); (try dsimp only [List.set_cons_zero, List.set_cons_succ]); (try clear g); intro g)
      (try (refine cmark _ ?_; (try dsimp only [List.set_cons_zero, List.set_cons_succ]); (try clear g); intro g))
      refine (CK1.out _ (G.sl g (by simp) H1.out) (G.sl g (by simp) J1.out) (G.tab g HT.out)).mono ?_
      rintro e w1 ⟨rfl, hb⟩
      obtain ⟨g1, rfl⟩ := G.call_ex _ hb
      clear hb
      (try clear g)
      revert g1
      intro g
      by_cases hez : e1 = 0
      · subst hez
        go_wp2_with (with_reducible refine G.any_mark _ ?_; (try generalize Array.size (World.heap (G.w _)) = bk); (try dsimp only [List.set_cons_zero, List.set_cons_succ]); (try clear g); intro g)
        refine (CO1.out _).mono ?_
        rintro e w1 ⟨rfl, hb⟩
        obtain ⟨g1, rfl⟩ := G.call_ex _ hb
        clear hb
        (try clear g)
        revert g1
        intro g
        obtain ⟨g2, hg2⟩ := G.less g (M' := [(rb, 25, [.bool false, .slice none 0 0, .slice none 0 0])]) (by simp)
        rw [hg2]
        clear hg2 g
        revert g2
        intro g
        go_wp2_with (first | (with_reducible refine G.any_mark _ ?_; (try generalize Array.size (World.heap (G.w _)) = bk); (try dsimp only [List.set_cons_zero, List.set_cons_succ]); (try clear g); intro g) | (at_builtin; refine wpList_append_lit0 rfl _ _ 56 rfl 61 i0 _ 3 56 Tryz.underlying56 hi hz0 hz1 hz2 rfl (by decide) g rfl 1 rfl rfl HP1 (by decide) (by decide) (by decide) ?_; clear g; intro b cap cs g hb hrow))
        obtain ⟨g2, hg2⟩ := G.less g (M' := [(b, 61, cs), (rb, 25, [.bool false, .slice none 0 0, .slice none 0 0])]) (by simp)
        go_roundg 1
        case measure => omega
        case rel => exact .inr (.inl ⟨by simp, by simp, by simp, b, cap, cs, rfl, hrow, hb, g2, hg2⟩)
      · have hne : ((e1 : Int) == 0) = false := by rw [beq_eq_false_iff_ne]; exact hez
        have hne2 : ((e1 : Int) != 0) = true := by rw [bne, hne]; rfl
        have HEZ := Lib.hid hez
        clear hez
        go_wp2_with (with_reducible refine G.any_mark _ ?_; (try generalize Array.size (World.heap (G.w _)) = bk); (try dsimp only [List.set_cons_zero, List.set_cons_succ]); (try clear g); intro g)
        refine bodyPost_ret (v := .tuple #[.agg #[.bool false, .slice none 0 0, .slice none 0 0], .int .i64 e1]) (by simp [results, Tryz.results39, go_sem]) rfl ?_
        rw [← HRR.out, if_pos HEZ.out]
        exact rpe_err _ _
    · go_wp2_with (with_reducible refine G.any_mark _ ?_; (try generalize Array.size (World.heap (G.w _)) = bk); (try dsimp only [List.set_cons_zero, List.set_cons_succ]); (try clear g); intro g)
      (try (refine cmark _ ?_; (try dsimp only [List.set_cons_zero, List.set_cons_succ]); (try clear g); intro g))
      refine (CK2.out _ (G.sl g (by simp) H2.out) (G.sl g (by simp) J2.out) (G.tab g HT.out)).mono ?_
      rintro e w1 ⟨rfl, hb⟩
      obtain ⟨g1, rfl⟩ := G.call_ex _ hb
      clear hb
      (try clear g)
      revert g1
      intro g
      by_cases hez : e2 = 0
      · subst hez
        go_wp2_with (with_reducible refine G.any_mark _ ?_; (try generalize Array.size (World.heap (G.w _)) = bk); (try dsimp only [List.set_cons_zero, List.set_cons_succ]); (try clear g); intro g)
        refine (CO2.out _).mono ?_
        rintro e w1 ⟨rfl, hb⟩
        obtain ⟨g1, rfl⟩ := G.call_ex _ hb
        clear hb
        (try clear g)
        revert g1
        intro g
        obtain ⟨g2, hg2⟩ := G.less g (M' := [(b, 61, cs), (rb, 25, [.bool false, .slice none 0 0, .slice none 0 0])]) (by simp)
        rw [hg2]
        clear hg2 g
        revert g2
        intro g
        go_wp2_with (first | (with_reducible refine G.any_mark _ ?_; (try generalize Array.size (World.heap (G.w _)) = bk); (try dsimp only [List.set_cons_zero, List.set_cons_succ]); (try clear g); intro g) | (at_builtin; refine wpList_append_lit rfl _ _ 56 rfl 61 i0 _ 3 56 Tryz.underlying56 hi hz0 hz1 hz2 rfl (by decide) g hrow hbw rfl 1 rfl rfl HP2 (by decide) (by decide) (by decide) ?_; clear hrow hbw g; intro b cap cs g hb hrow))
        obtain ⟨g2, hg2⟩ := G.less g (M' := [(b, 61, cs), (rb, 25, [.bool false, .slice none 0 0, .slice none 0 0])]) (by simp)
        go_roundg 0
        case measure => omega
        case rel => exact .inr (.inr (⟨by simp, by simp, by simp, by simp, b, cap, cs, rfl, hrow, hb, g2, hg2⟩))
      · have hne : ((e2 : Int) == 0) = false := by rw [beq_eq_false_iff_ne]; exact hez
        have hne2 : ((e2 : Int) != 0) = true := by rw [bne, hne]; rfl
        have HEZ := Lib.hid hez
        clear hez
        go_wp2_with (with_reducible refine G.any_mark _ ?_; (try generalize Array.size (World.heap (G.w _)) = bk); (try dsimp only [List.set_cons_zero, List.set_cons_succ]); (try clear g); intro g)
        refine bodyPost_ret (v := .tuple #[.agg #[.bool false, .slice none 0 0, .slice none 0 0], .int .i64 e2]) (by simp [results, Tryz.results39, go_sem]) rfl ?_
        rw [← HRR.out, if_neg (by decide), if_pos HEZ.out]
        exact rpe_err _ _
    · go_wp2_with (with_reducible refine G.any_mark _ ?_; (try generalize Array.size (World.heap (G.w _)) = bk); (try dsimp only [List.set_cons_zero, List.set_cons_succ]); (try clear g); intro g)
      refine (HF.out (by simp) (by simp) _ b cap hrow.le ⟨row_at g (List.mem_cons_self ..) hrow (j := 0) rfl, row_at g (List.mem_cons_self ..) hrow (j := 1) rfl, row_at g (List.mem_cons_self ..) hrow (j := 2) rfl⟩ ⟨row_at g (List.mem_cons_self ..) hrow (j := 3) rfl, row_at g (List.mem_cons_self ..) hrow (j := 4) rfl, row_at g (List.mem_cons_self ..) hrow (j := 5) rfl⟩ (G.sl g (by simp) H1.out) (G.sl g (by simp) J1.out) (G.sl g (by simp) H2.out) (G.sl g (by simp) J2.out) (G.tab g HT.out)).mono ?_
      rintro e w1 ⟨Z1, z1, R1, Z2, z2, R2, rfl, hz1, hz2, hn1, hn2⟩
      have ho1 := fun k o hk => Nat.le_trans (G.chg _).size (hn1.new k o hk)
      have ho2 := fun k o hk => Nat.le_trans (G.chg _).size (hn2.new k o hk)
      obtain ⟨g1, rfl⟩ := G.new2_ex _ hn1 hn2
      clear hn1 hn2
      (try clear g)
      revert g1
      intro g
      go_wp2_with (with_reducible refine G.any_mark _ ?_; (try generalize Array.size (World.heap (G.w _)) = bk); (try dsimp only [List.set_cons_zero, List.set_cons_succ]); (try clear g); intro g)
      refine bodyPost_ret (v := .tuple #[.agg #[.bool r.1, .slice Z1 (limbs r.2.1).length z1, .slice Z2 (limbs r.2.2.1).length z2], .int .i64 r.2.2.2]) (by simp [results, Tryz.results39, go_sem]) rfl ?_
      rw [← HRR.out, if_neg (by decide), if_neg (by decide)]
      exact ⟨Z1, z1, R1, Z2, z2, R2, rfl, hz1, hz2, G.pass _ (by simp) ho1, G.pass _ (by simp) ho2⟩
set_option maxRecDepth 20000 in
set_option maxHeartbeats 4000000 in
theorem with_mul (lb : Nat) (r : Bool × Nat × Nat × Int) (s1 : Bool) (A1 B1 : Option Addr) (c1 k1 : Nat) (l1 m1 : List Nat) (s2 : Bool) (A2 B2 : Option Addr) (c2 k2 : Nat) (l2 m2 : List Nat) (w : World) (p1 : PtAt w lb 0 s1 A1 l1.length c1 B1 m1.length k1) (h1 : SlW w A1 c1 l1) (j1 : SlW w B1 k1 m1) (p2 : PtAt w lb 3 s2 A2 l2.length c2 B2 m2.length k2) (h2 : SlW w A2 c2 l2) (j2 : SlW w B2 k2 m2) (hT : Tab w)
    (hf : rchk s1 l1 m1 = 0 → rchk s2 l2 m2 = 0 → ∀ (w' : World) (bF capF : Nat), 2 ≤ capF → FrAt w' bF 0 s1 A1 l1.length c1 B1 m1.length k1 → FrAt w' bF 3 s2 A2 l2.length c2 B2 m2.length k2 → SlW w' A1 c1 l1 → SlW w' B1 k1 m1 → SlW w' A2 c2 l2 → SlW w' B2 k2 m2 → Tab w' → Calls Tryz.prog 50 #[.slice (some ⟨bF, 0, none⟩) 2 capF] w' (RPE r w')) :
    Calls Tryz.prog 39 #[.func (.func 50) #[] #[], .slice (some ⟨lb, 0, none⟩) 2 2] w (RPE (if rchk s1 l1 m1 ≠ 0 then (false, 0, 0, rchk s1 l1 m1) else if rchk s2 l2 m2 ≠ 0 then (false, 0, 0, rchk s2 l2 m2) else r) w) := by
  refine calls_b fun g => ?_
  have CK1 := Lib.hid (fun w a b t => rcheck s1 A1 B1 c1 k1 l1 m1 w a b t)
  have CO1 := Lib.hid (fun w => of_any s1 A1 B1 c1 k1 l1.length m1.length w)
  have E10 := fun (M : List Blk) (g : G w [] M [heapOf w]) => G.old g (List.mem_cons_self ..) p1.c0
  have E11 := fun (M : List Blk) (g : G w [] M [heapOf w]) => G.old g (List.mem_cons_self ..) p1.c1
  have E12 := fun (M : List Blk) (g : G w [] M [heapOf w]) => G.old g (List.mem_cons_self ..) p1.c2
  have H1 := Lib.hid h1
  have J1 := Lib.hid j1
  obtain ⟨e1, he1⟩ : ∃ e, rchk s1 l1 m1 = e := ⟨_, rfl⟩
  rw [he1] at CK1 hf ⊢
  clear p1 h1 j1 he1
  have CK2 := Lib.hid (fun w a b t => rcheck s2 A2 B2 c2 k2 l2 m2 w a b t)
  have CO2 := Lib.hid (fun w => of_any s2 A2 B2 c2 k2 l2.length m2.length w)
  have E20 := fun (M : List Blk) (g : G w [] M [heapOf w]) => G.old g (List.mem_cons_self ..) p2.c0
  have E21 := fun (M : List Blk) (g : G w [] M [heapOf w]) => G.old g (List.mem_cons_self ..) p2.c1
  have E22 := fun (M : List Blk) (g : G w [] M [heapOf w]) => G.old g (List.mem_cons_self ..) p2.c2
  have H2 := Lib.hid h2
  have J2 := Lib.hid j2
  obtain ⟨e2, he2⟩ : ∃ e, rchk s2 l2 m2 = e := ⟨_, rfl⟩
  rw [he2] at CK2 hf ⊢
  clear p2 h2 j2 he2
  have HF := Lib.hid hf
  have HT := Lib.hid hT
  obtain ⟨RR, hRR⟩ : ∃ RR, (if e1 ≠ 0 then (false, 0, 0, e1) else if e2 ≠ 0 then (false, 0, 0, e2) else r) = RR := ⟨_, rfl⟩
  rw [hRR]
  have HRR := Lib.hid hRR
  clear hf hT hRR
  generalize l1.length = n1 at *
  generalize m1.length = d1 at *
  generalize l2.length = n2 at *
  generalize m2.length = d2 at *
  obtain ⟨i0, hi, hz0, hz1, hz2⟩ := info_parts infoFr
  have HP1 := pts_one s1 A1 n1 c1 B1 d1 k1
  have HP2 := pts_one s2 A2 n2 c2 B2 d2 k2
  go_enter Tryz.func39, Tryz.ntmps39
  go_wp2_with (with_reducible refine G.any_mark _ ?_; (try generalize Array.size (World.heap (G.w _)) = bk); (try dsimp only [List.set_cons_zero, List.set_cons_succ]); (try clear g); intro g)
  obtain ⟨rb, rfl⟩ : ∃ rb, rb = bk := ⟨_, rfl⟩
  go_loopg [6, 12] 2 (fun gk s6 s12 wr => (gk = 2 ∧ s12 = .int .i64 0 ∧ s6 = .slice none 0 0 ∧ ∃ g : G w [] [(rb, 25, [.bool false, .slice none 0 0, .slice none 0 0])] [heapOf w], wr = g.w) ∨ (gk = 1 ∧ s12 = .int .i64 1 ∧ e1 = 0 ∧ ∃ b cap cs, s6 = .slice (some ⟨b, 0, none⟩) 1 cap ∧ Row 61 3 1 ([Value.bool s1, .slice A1 n1 c1, .slice B1 d1 k1]) cap cs ∧ w.heap.size ≤ b ∧ ∃ g : G w [] [(b, 61, cs), (rb, 25, [.bool false, .slice none 0 0, .slice none 0 0])] [heapOf w], wr = g.w) ∨ (gk = 0 ∧ s12 = .int .i64 2 ∧ e1 = 0 ∧ e2 = 0 ∧ ∃ b cap cs, s6 = .slice (some ⟨b, 0, none⟩) 2 cap ∧ Row 61 3 2 ([Value.bool s1, .slice A1 n1 c1, .slice B1 d1 k1] ++ [Value.bool s2, .slice A2 n2 c2, .slice B2 d2 k2]) cap cs ∧ w.heap.size ≤ b ∧ ∃ g : G w [] [(b, 61, cs), (rb, 25, [.bool false, .slice none 0 0, .slice none 0 0])] [heapOf w], wr = g.w))
  case atStart => exact .inl ⟨rfl, rfl, rfl, g, rfl⟩
  case round =>
    clear g
    rcases hrel with ⟨rfl, rfl, rfl, g, rfl⟩ | ⟨rfl, rfl, rfl, b, cap, cs, rfl, hrow, hbw, g, rfl⟩ | ⟨rfl, rfl, rfl, rfl, b, cap, cs, rfl, hrow, hbw, g, rfl⟩
    · go_wp2_with (with_reducible refine G.any_mark _ ?_; (try generalize Array.size (World.heap (G.w _)) = bk); (try dsimp only [List.set_cons_zero, List.set_cons_succ]); (try clear g); intro g)
      (try (refine cmark _ ?_; (try dsimp only [List.set_cons_zero, List.set_cons_succ]); (try clear g); intro g))
      refine (CK1.out _ (G.sl g (by simp) H1.out) (G.sl g (by simp) J1.out) (G.tab g HT.out)).mono ?_
      rintro e w1 ⟨rfl, hb⟩
      obtain ⟨g1, rfl⟩ := G.call_ex _ hb
      clear hb
      (try clear g)
      revert g1
      intro g
      by_cases hez : e1 = 0
      · subst hez
        go_wp2_with (with_reducible refine G.any_mark _ ?_; (try generalize Array.size (World.heap (G.w _)) = bk); (try dsimp only [List.set_cons_zero, List.set_cons_succ]); (try clear g); intro g)
        refine (CO1.out _).mono ?_
        rintro e w1 ⟨rfl, hb⟩
        obtain ⟨g1, rfl⟩ := G.call_ex _ hb
        clear hb
        (try clear g)
        revert g1
        intro g
        obtain ⟨g2, hg2⟩ := G.less g (M' := [(rb, 25, [.bool false, .slice none 0 0, .slice none 0 0])]) (by simp)
        rw [hg2]
        clear hg2 g
        revert g2
        intro g
        go_wp2_with (first | (with_reducible refine G.any_mark _ ?_; (try generalize Array.size (World.heap (G.w _)) = bk); (try dsimp only [List.set_cons_zero, List.set_cons_succ]); (try clear g); intro g) | (at_builtin; refine wpList_append_lit0 rfl _ _ 56 rfl 61 i0 _ 3 56 Tryz.underlying56 hi hz0 hz1 hz2 rfl (by decide) g rfl 1 rfl rfl HP1 (by decide) (by decide) (by decide) ?_; clear g; intro b cap cs g hb hrow))
        obtain ⟨g2, hg2⟩ := G.less g (M' := [(b, 61, cs), (rb, 25, [.bool false, .slice none 0 0, .slice none 0 0])]) (by simp)
        go_roundg 1
        case measure => omega
        case rel => exact .inr (.inl ⟨by simp, by simp, by simp, b, cap, cs, rfl, hrow, hb, g2, hg2⟩)
      · have hne : ((e1 : Int) == 0) = false := by rw [beq_eq_false_iff_ne]; exact hez
        have hne2 : ((e1 : Int) != 0) = true := by rw [bne, hne]; rfl
        have HEZ := Lib.hid hez
        clear hez
        go_wp2_with (with_reducible refine G.any_mark _ ?_; (try generalize Array.size (World.heap (G.w _)) = bk); (try dsimp only [List.set_cons_zero, List.set_cons_succ]); (try clear g); intro g)
        refine bodyPost_ret (v := .tuple #[.agg #[.bool false, .slice none 0 0, .slice none 0 0], .int .i64 e1]) (by simp [results, Tryz.results39, go_sem]) rfl ?_
        rw [← HRR.out, if_pos HEZ.out]
        exact rpe_err _ _
    · go_wp2_with (with_reducible refine G.any_mark _ ?_; (try generalize Array.size (World.heap (G.w _)) = bk); (try dsimp only [List.set_cons_zero, List.set_cons_succ]); (try clear g); intro g)
      (try (refine cmark _ ?_; (try dsimp only [List.set_cons_zero, List.set_cons_succ]); (try clear g); intro g))
      refine (CK2.out _ (G.sl g (by simp) H2.out) (G.sl g (by simp) J2.out) (G.tab g HT.out)).mono ?_
      rintro e w1 ⟨rfl, hb⟩
      obtain ⟨g1, rfl⟩ := G.call_ex _ hb
      clear hb
      (try clear g)
      revert g1
      intro g
      by_cases hez : e2 = 0
      · subst hez
        go_wp2_with (with_reducible refine G.any_mark _ ?_; (try generalize Array.size (World.heap (G.w _)) = bk); (try dsimp only [List.set_cons_zero, List.set_cons_succ]); (try clear g); intro g)
        refine (CO2.out _).mono ?_
        rintro e w1 ⟨rfl, hb⟩
        obtain ⟨g1, rfl⟩ := G.call_ex _ hb
        clear hb
        (try clear g)
        revert g1
        intro g
        obtain ⟨g2, hg2⟩ := G.less g (M' := [(b, 61, cs), (rb, 25, [.bool false, .slice none 0 0, .slice none 0 0])]) (by simp)
        rw [hg2]
        clear hg2 g
        revert g2
        intro g
        go_wp2_with (first | (with_reducible refine G.any_mark _ ?_; (try generalize Array.size (World.heap (G.w _)) = bk); (try dsimp only [List.set_cons_zero, List.set_cons_succ]); (try clear g); intro g) | (at_builtin; refine wpList_append_lit rfl _ _ 56 rfl 61 i0 _ 3 56 Tryz.underlying56 hi hz0 hz1 hz2 rfl (by decide) g hrow hbw rfl 1 rfl rfl HP2 (by decide) (by decide) (by decide) ?_; clear hrow hbw g; intro b cap cs g hb hrow))
        obtain ⟨g2, hg2⟩ := G.less g (M' := [(b, 61, cs), (rb, 25, [.bool false, .slice none 0 0, .slice none 0 0])]) (by simp)
        go_roundg 0
        case measure => omega
        case rel => exact .inr (.inr (⟨by simp, by simp, by simp, by simp, b, cap, cs, rfl, hrow, hb, g2, hg2⟩))
      · have hne : ((e2 : Int) == 0) = false := by rw [beq_eq_false_iff_ne]; exact hez
        have hne2 : ((e2 : Int) != 0) = true := by rw [bne, hne]; rfl
        have HEZ := Lib.hid hez
        clear hez
        go_wp2_with (with_reducible refine G.any_mark _ ?_; (try generalize Array.size (World.heap (G.w _)) = bk); (try dsimp only [List.set_cons_zero, List.set_cons_succ]); (try clear g); intro g)
        refine bodyPost_ret (v := .tuple #[.agg #[.bool false, .slice none 0 0, .slice none 0 0], .int .i64 e2]) (by simp [results, Tryz.results39, go_sem]) rfl ?_
        rw [← HRR.out, if_neg (by decide), if_pos HEZ.out]
        exact rpe_err _ _
    · go_wp2_with (with_reducible refine G.any_mark _ ?_; (try generalize Array.size (World.heap (G.w _)) = bk); (try dsimp only [List.set_cons_zero, List.set_cons_succ]); (try clear g); intro g)
      refine (HF.out (by simp) (by simp) _ b cap hrow.le ⟨row_at g (List.mem_cons_self ..) hrow (j := 0) rfl, row_at g (List.mem_cons_self ..) hrow (j := 1) rfl, row_at g (List.mem_cons_self ..) hrow (j := 2) rfl⟩ ⟨row_at g (List.mem_cons_self ..) hrow (j := 3) rfl, row_at g (List.mem_cons_self ..) hrow (j := 4) rfl, row_at g (List.mem_cons_self ..) hrow (j := 5) rfl⟩ (G.sl g (by simp) H1.out) (G.sl g (by simp) J1.out) (G.sl g (by simp) H2.out) (G.sl g (by simp) J2.out) (G.tab g HT.out)).mono ?_
      rintro e w1 ⟨Z1, z1, R1, Z2, z2, R2, rfl, hz1, hz2, hn1, hn2⟩
      have ho1 := fun k o hk => Nat.le_trans (G.chg _).size (hn1.new k o hk)
      have ho2 := fun k o hk => Nat.le_trans (G.chg _).size (hn2.new k o hk)
      obtain ⟨g1, rfl⟩ := G.new2_ex _ hn1 hn2
      clear hn1 hn2
      (try clear g)
      revert g1
      intro g
      go_wp2_with (with_reducible refine G.any_mark _ ?_; (try generalize Array.size (World.heap (G.w _)) = bk); (try dsimp only [List.set_cons_zero, List.set_cons_succ]); (try clear g); intro g)
      refine bodyPost_ret (v := .tuple #[.agg #[.bool r.1, .slice Z1 (limbs r.2.1).length z1, .slice Z2 (limbs r.2.2.1).length z2], .int .i64 r.2.2.2]) (by simp [results, Tryz.results39, go_sem]) rfl ?_
      rw [← HRR.out, if_neg (by decide), if_neg (by decide)]
      exact ⟨Z1, z1, R1, Z2, z2, R2, rfl, hz1, hz2, G.pass _ (by simp) ho1, G.pass _ (by simp) ho2⟩
set_option maxRecDepth 20000 in
set_option maxHeartbeats 4000000 in
theorem with_div (lb : Nat) (r : Bool × Nat × Nat × Int) (s1 : Bool) (A1 B1 : Option Addr) (c1 k1 : Nat) (l1 m1 : List Nat) (s2 : Bool) (A2 B2 : Option Addr) (c2 k2 : Nat) (l2 m2 : List Nat) (w : World) (p1 : PtAt w lb 0 s1 A1 l1.length c1 B1 m1.length k1) (h1 : SlW w A1 c1 l1) (j1 : SlW w B1 k1 m1) (p2 : PtAt w lb 3 s2 A2 l2.length c2 B2 m2.length k2) (h2 : SlW w A2 c2 l2) (j2 : SlW w B2 k2 m2) (hT : Tab w)
    (hf : rchk s1 l1 m1 = 0 → rchk s2 l2 m2 = 0 → ∀ (w' : World) (bF capF : Nat), 2 ≤ capF → FrAt w' bF 0 s1 A1 l1.length c1 B1 m1.length k1 → FrAt w' bF 3 s2 A2 l2.length c2 B2 m2.length k2 → SlW w' A1 c1 l1 → SlW w' B1 k1 m1 → SlW w' A2 c2 l2 → SlW w' B2 k2 m2 → Tab w' → Calls Tryz.prog 53 #[.slice (some ⟨bF, 0, none⟩) 2 capF] w' (RPE r w')) :
    Calls Tryz.prog 39 #[.func (.func 53) #[] #[], .slice (some ⟨lb, 0, none⟩) 2 2] w (RPE (if rchk s1 l1 m1 ≠ 0 then (false, 0, 0, rchk s1 l1 m1) else if rchk s2 l2 m2 ≠ 0 then (false, 0, 0, rchk s2 l2 m2) else r) w) := by
  refine calls_b fun g => ?_
  have CK1 := Lib.hid (fun w a b t => rcheck s1 A1 B1 c1 k1 l1 m1 w a b t)
  have CO1 := Lib.hid (fun w => of_any s1 A1 B1 c1 k1 l1.length m1.length w)
  have E10 := fun (M : List Blk) (g : G w [] M [heapOf w]) => G.old g (List.mem_cons_self ..) p1.c0
  have E11 := fun (M : List Blk) (g : G w [] M [heapOf w]) => G.old g (List.mem_cons_self ..) p1.c1
  have E12 := fun (M : List Blk) (g : G w [] M [heapOf w]) => G.old g (List.mem_cons_self ..) p1.c2
  have H1 := Lib.hid h1
  have J1 := Lib.hid j1
  obtain ⟨e1, he1⟩ : ∃ e, rchk s1 l1 m1 = e := ⟨_, rfl⟩
  rw [he1] at CK1 hf ⊢
  clear p1 h1 j1 he1
  have CK2 := Lib.hid (fun w a b t => rcheck s2 A2 B2 c2 k2 l2 m2 w a b t)
  have CO2 := Lib.hid (fun w => of_any s2 A2 B2 c2 k2 l2.length m2.length w)
  have E20 := fun (M : List Blk) (g : G w [] M [heapOf w]) => G.old g (List.mem_cons_self ..) p2.c0
  have E21 := fun (M : List Blk) (g : G w [] M [heapOf w]) => G.old g (List.mem_cons_self ..) p2.c1
  have E22 := fun (M : List Blk) (g : G w [] M [heapOf w]) => G.old g (List.mem_cons_self ..) p2.c2
  have H2 := Lib.hid h2
  have J2 := Lib.hid j2
  obtain ⟨e2, he2⟩ : ∃ e, rchk s2 l2 m2 = e := ⟨_, rfl⟩
  rw [he2] at CK2 hf ⊢
  clear p2 h2 j2 he2
  have HF := Lib.hid hf
  have HT := Lib.hid hT
  obtain ⟨RR, hRR⟩ : ∃ RR, (if e1 ≠ 0 then (false, 0, 0, e1) else if e2 ≠ 0 then (false, 0, 0, e2) else r) = RR := ⟨_, rfl⟩
  rw [hRR]
  have HRR := Lib.hid hRR
  clear hf hT hRR
  generalize l1.length = n1 at *
  generalize m1.length = d1 at *
  generalize l2.length = n2 at *
  generalize m2.length = d2 at *
  obtain ⟨i0, hi, hz0, hz1, hz2⟩ := info_parts infoFr
  have HP1 := pts_one s1 A1 n1 c1 B1 d1 k1
  have HP2 := pts_one s2 A2 n2 c2 B2 d2 k2
  go_enter Tryz.func39, Tryz.ntmps39
  go_wp2_with (with_reducible refine G.any_mark _ ?_; (try generalize Array.size (World.heap (G.w _)) = bk); (try dsimp only [List.set_cons_zero, List.set_cons_succ]); (try clear g); intro g)
  obtain ⟨rb, rfl⟩ : ∃ rb, rb = bk := ⟨_, rfl⟩
  go_loopg [6, 12] 2 (fun gk s6 s12 wr => (gk = 2 ∧ s12 = .int .i64 0 ∧ s6 = .slice none 0 0 ∧ ∃ g : G w [] [(rb, 25, [.bool false, .slice none 0 0, .slice none 0 0])] [heapOf w], wr = g.w) ∨ (gk = 1 ∧ s12 = .int .i64 1 ∧ e1 = 0 ∧ ∃ b cap cs, s6 = .slice (some ⟨b, 0, none⟩) 1 cap ∧ Row 61 3 1 ([Value.bool s1, .slice A1 n1 c1, .slice B1 d1 k1]) cap cs ∧ w.heap.size ≤ b ∧ ∃ g : G w [] [(b, 61, cs), (rb, 25, [.bool false, .slice none 0 0, .slice none 0 0])] [heapOf w], wr = g.w) ∨ (gk = 0 ∧ s12 = .int .i64 2 ∧ e1 = 0 ∧ e2 = 0 ∧ ∃ b cap cs, s6 = .slice (some ⟨b, 0, none⟩) 2 cap ∧ Row 61 3 2 ([Value.bool s1, .slice A1 n1 c1, .slice B1 d1 k1] ++ [Value.bool s2, .slice A2 n2 c2, .slice B2 d2 k2]) cap cs ∧ w.heap.size ≤ b ∧ ∃ g : G w [] [(b, 61, cs), (rb, 25, [.bool false, .slice none 0 0, .slice none 0 0])] [heapOf w], wr = g.w))
  case atStart => exact .inl ⟨rfl, rfl, rfl, g, rfl⟩
  case round =>
    clear g
    rcases hrel with ⟨rfl, rfl, rfl, g, rfl⟩ | ⟨rfl, rfl, rfl, b, cap, cs, rfl, hrow, hbw, g, rfl⟩ | ⟨rfl, rfl, rfl, rfl, b, cap, cs, rfl, hrow, hbw, g, rfl⟩
    · go_wp2_with (with_reducible refine G.any_mark _ ?_; (try generalize Array.size (World.heap (G.w _)) = bk); (try dsimp only [List.set_cons_zero, List.set_cons_succ]); (try clear g); intro g)
      (try (refine cmark _ ?_; (try dsimp only [List.set_cons_zero, List.set_cons_succ]); (try clear g); intro g))
      refine (CK1.out _ (G.sl g (by simp) H1.out) (G.sl g (by simp) J1.out) (G.tab g HT.out)).mono ?_
      rintro e w1 ⟨rfl, hb⟩
      obtain ⟨g1, rfl⟩ := G.call_ex _ hb
      clear hb
      (try clear g)
      revert g1
      intro g
      by_cases hez : e1 = 0
      · subst hez
        go_wp2_with (with_reducible refine G.any_mark _ ?_; (try generalize Array.size (World.heap (G.w _)) = bk); (try dsimp only [List.set_cons_zero, List.set_cons_succ]); (try clear g); intro g)
        refine (CO1.out _).mono ?_
        rintro e w1 ⟨rfl, hb⟩
        obtain ⟨g1, rfl⟩ := G.call_ex _ hb
        clear hb
        (try clear g)
        revert g1
        intro g
        obtain ⟨g2, hg2⟩ := G.less g (M' := [(rb, 25, [.bool false, .slice none 0 0, .slice none 0 0])]) (by simp)
        rw [hg2]
        clear hg2 g
        revert g2
        intro g
        go_wp2_with (first | (with_reducible refine G.any_mark _ ?_; (try generalize Array.size (World.heap (G.w _)) = bk); (try dsimp only [List.set_cons_zero, List.set_cons_succ]); (try clear g); intro g) | (at_builtin; refine wpList_append_lit0 rfl _ _ 56 rfl 61 i0 _ 3 56 Tryz.underlying56 hi hz0 hz1 hz2 rfl (by decide) g rfl 1 rfl rfl HP1 (by decide) (by decide) (by decide) ?_; clear g; intro b cap cs g hb hrow))
        obtain ⟨g2, hg2⟩ := G.less g (M' := [(b, 61, cs), (rb, 25, [.bool false, .slice none 0 0, .slice none 0 0])]) (by simp)
        go_roundg 1
        case measure => omega
        case rel => exact .inr (.inl ⟨by simp, by simp, by simp, b, cap, cs, rfl, hrow, hb, g2, hg2⟩)
      · have hne : ((e1 : Int) == 0) = false := by rw [beq_eq_false_iff_ne]; exact hez
        have hne2 : ((e1 : Int) != 0) = true := by rw [bne, hne]; rfl
        have HEZ := Lib.hid hez
        clear hez
        go_wp2_with (with_reducible refine G.any_mark _ ?_; (try generalize Array.size (World.heap (G.w _)) = bk); (try dsimp only [List.set_cons_zero, List.set_cons_succ]); (try clear g); intro g)
        refine bodyPost_ret (v := .tuple #[.agg #[.bool false, .slice none 0 0, .slice none 0 0], .int .i64 e1]) (by simp [results, Tryz.results39, go_sem]) rfl ?_
        rw [← HRR.out, if_pos HEZ.out]
        exact rpe_err _ _
    · go_wp2_with (with_reducible refine G.any_mark _ ?_; (try generalize Array.size (World.heap (G.w _)) = bk); (try dsimp only [List.set_cons_zero, List.set_cons_succ]); (try clear g); intro g)
      (try (refine cmark _ ?_; (try dsimp only [List.set_cons_zero, List.set_cons_succ]); (try clear g); intro g))
      refine (CK2.out _ (G.sl g (by simp) H2.out) (G.sl g (by simp) J2.out) (G.tab g HT.out)).mono ?_
      rintro e w1 ⟨rfl, hb⟩
      obtain ⟨g1, rfl⟩ := G.call_ex _ hb
      clear hb
      (try clear g)
      revert g1
      intro g
      by_cases hez : e2 = 0
      · subst hez
        go_wp2_with (with_reducible refine G.any_mark _ ?_; (try generalize Array.size (World.heap (G.w _)) = bk); (try dsimp only [List.set_cons_zero, List.set_cons_succ]); (try clear g); intro g)
        refine (CO2.out _).mono ?_
        rintro e w1 ⟨rfl, hb⟩
        obtain ⟨g1, rfl⟩ := G.call_ex _ hb
        clear hb
        (try clear g)
        revert g1
        intro g
        obtain ⟨g2, hg2⟩ := G.less g (M' := [(b, 61, cs), (rb, 25, [.bool false, .slice none 0 0, .slice none 0 0])]) (by simp)
        rw [hg2]
        clear hg2 g
        revert g2
        intro g
        go_wp2_with (first | (with_reducible refine G.any_mark _ ?_; (try generalize Array.size (World.heap (G.w _)) = bk); (try dsimp only [List.set_cons_zero, List.set_cons_succ]); (try clear g); intro g) | (at_builtin; refine wpList_append_lit rfl _ _ 56 rfl 61 i0 _ 3 56 Tryz.underlying56 hi hz0 hz1 hz2 rfl (by decide) g hrow hbw rfl 1 rfl rfl HP2 (by decide) (by decide) (by decide) ?_; clear hrow hbw g; intro b cap cs g hb hrow))
        obtain ⟨g2, hg2⟩ := G.less g (M' := [(b, 61, cs), (rb, 25, [.bool false, .slice none 0 0, .slice none 0 0])]) (by simp)
        go_roundg 0
        case measure => omega
        case rel => exact .inr (.inr (⟨by simp, by simp, by simp, by simp, b, cap, cs, rfl, hrow, hb, g2, hg2⟩))
      · have hne : ((e2 : Int) == 0) = false := by rw [beq_eq_false_iff_ne]; exact hez
        have hne2 : ((e2 : Int) != 0) = true := by rw [bne, hne]; rfl
        have HEZ := Lib.hid hez
        clear hez
        go_wp2_with (with_reducible refine G.any_mark _ ?_; (try generalize Array.size (World.heap (G.w _)) = bk); (try dsimp only [List.set_cons_zero, List.set_cons_succ]); (try clear g); intro g)
        refine bodyPost_ret (v := .tuple #[.agg #[.bool false, .slice none 0 0, .slice none 0 0], .int .i64 e2]) (by simp [results, Tryz.results39, go_sem]) rfl ?_
        rw [← HRR.out, if_neg (by decide), if_pos HEZ.out]
        exact rpe_err _ _
    · go_wp2_with (with_reducible refine G.any_mark _ ?_; (try generalize Array.size (World.heap (G.w _)) = bk); (try dsimp only [List.set_cons_zero, List.set_cons_succ]); (try clear g); intro g)
      refine (HF.out (by simp) (by simp) _ b cap hrow.le ⟨row_at g (List.mem_cons_self ..) hrow (j := 0) rfl, row_at g (List.mem_cons_self ..) hrow (j := 1) rfl, row_at g (List.mem_cons_self ..) hrow (j := 2) rfl⟩ ⟨row_at g (List.mem_cons_self ..) hrow (j := 3) rfl, row_at g (List.mem_cons_self ..) hrow (j := 4) rfl, row_at g (List.mem_cons_self ..) hrow (j := 5) rfl⟩ (G.sl g (by simp) H1.out) (G.sl g (by simp) J1.out) (G.sl g (by simp) H2.out) (G.sl g (by simp) J2.out) (G.tab g HT.out)).mono ?_
      rintro e w1 ⟨Z1, z1, R1, Z2, z2, R2, rfl, hz1, hz2, hn1, hn2⟩
      have ho1 := fun k o hk => Nat.le_trans (G.chg _).size (hn1.new k o hk)
      have ho2 := fun k o hk => Nat.le_trans (G.chg _).size (hn2.new k o hk)
      obtain ⟨g1, rfl⟩ := G.new2_ex _ hn1 hn2
      clear hn1 hn2
      (try clear g)
      revert g1
      intro g
      go_wp2_with (with_reducible refine G.any_mark _ ?_; (try generalize Array.size (World.heap (G.w _)) = bk); (try dsimp only [List.set_cons_zero, List.set_cons_succ]); (try clear g); intro g)
      refine bodyPost_ret (v := .tuple #[.agg #[.bool r.1, .slice Z1 (limbs r.2.1).length z1, .slice Z2 (limbs r.2.2.1).length z2], .int .i64 r.2.2.2]) (by simp [results, Tryz.results39, go_sem]) rfl ?_
      rw [← HRR.out, if_neg (by decide), if_neg (by decide)]
      exact ⟨Z1, z1, R1, Z2, z2, R2, rfl, hz1, hz2, G.pass _ (by simp) ho1, G.pass _ (by simp) ho2⟩
end Go.Proofs.YtjdnpkicdmapnaaGreatDoor
namespace Go.Proofs.YtjdnpkicdmapnaaGreatDoor
open Go.RowKit GW NL
theorem rchk_ok {s : Bool} {l m : List Nat} (hl : Ok l) (hm : Ok m) (h : rchk s l m = 0) : l = limbs (val l) ∧ m = limbs (val m) ∧ val m ≠ 0 ∧ Nat.gcd (val l) (val m) = 1 ∧ (s = true → val l ≠ 0) ∧ l.length ≤ 256 ∧ m.length ≤ 256 := by
  unfold rchk at h
  by_cases h1 : chk l = 0
  · rw [if_neg (by omega)] at h
    by_cases h2 : chk m = 0
    · rw [if_neg (by omega)] at h
      obtain ⟨a1, a2, a3⟩ := chk_ok hl h1
      obtain ⟨b1, b2, b3⟩ := chk_ok hm h2
      by_cases h3 : val m = 0
      · rw [if_pos h3] at h; cases h
      · rw [if_neg h3] at h
        by_cases h4 : (s = true ∧ val l = 0) ∨ Nat.gcd (val l) (val m) ≠ 1
        · rw [if_pos h4] at h; cases h
        · refine ⟨a1, b1, h3, ?_, ?_, a3, b3⟩
          · exact Classical.not_not.1 fun hg => h4 (.inr hg)
          · intro hs hv; exact h4 (.inl ⟨hs, hv⟩)
    · rw [if_pos h2] at h; exact absurd h h2
  · rw [if_pos h1] at h; exact absurd h h1
/-- the rational number of parts -/
def fr (s : Bool) (l m : List Nat) : Rat := frac s (val l) (val m)
def out1 (e1 : Int) (r : Bool × Nat × Nat × Int) : Bool × Nat × Nat × Int := if e1 ≠ 0 then (false, 0, 0, e1) else r
def out2 (e1 e2 : Int) (r : Bool × Nat × Nat × Int) : Bool × Nat × Nat × Int := if e1 ≠ 0 then (false, 0, 0, e1) else if e2 ≠ 0 then (false, 0, 0, e2) else r
set_option maxRecDepth 20000 in
set_option maxHeartbeats 2000000 in
theorem qAdd_any (s1 s2 : Bool) (A1 B1 A2 B2 : Option Addr) (c1 k1 c2 k2 : Nat) (l1 m1 l2 m2 : List Nat) (w : World) (h1 : SlW w A1 c1 l1) (j1 : SlW w B1 k1 m1) (h2 : SlW w A2 c2 l2) (j2 : SlW w B2 k2 m2) (hT : Tab w) :
    Calls Tryz.prog 12 #[.agg #[.bool s1, .slice A1 l1.length c1, .slice B1 m1.length k1], .agg #[.bool s2, .slice A2 l2.length c2, .slice B2 m2.length k2]] w (RPE (out2 (rchk s1 l1 m1) (rchk s2 l2 m2) (outX (fr s1 l1 m1 + fr s2 l2 m2))) w) := by
  refine calls_b fun g => ?_
  have ol1 := h1.ok
  have om1 := j1.ok
  have ol2 := h2.ok
  have om2 := j2.ok
  have CW := Lib.hid (fun lb w p1 a1 b1 p2 a2 b2 ht => with_add lb (outX (fr s1 l1 m1 + fr s2 l2 m2)) s1 A1 B1 c1 k1 l1 m1 s2 A2 B2 c2 k2 l2 m2 w p1 a1 b1 p2 a2 b2 ht (fun r1 r2 w' bF capF hc f1 f2 x1 y1 x2 y2 t => by
    obtain ⟨e1, e2, e3, _, _, e6, e7⟩ := rchk_ok ol1 om1 r1
    obtain ⟨e1', e2', e3', _, _, e6', e7'⟩ := rchk_ok ol2 om2 r2
    have := add1_any bF capF s1 s2 A1 B1 A2 B2 c1 k1 c2 k2 (val l1) (val m1) (val l2) (val m2) w' (by rw [← e1, ← e2]; exact f1) (by rw [← e1', ← e2']; exact f2) hc (by rw [← e1]; exact x1) (by rw [← e2]; exact y1) (by rw [← e1']; exact x2) (by rw [← e2']; exact y2) t (by rw [← e1]; omega) (by rw [← e2]; omega) (by rw [← e1']; omega) (by rw [← e2']; omega) e3 e3'
    exact this))
  have HT := Lib.hid hT
  have H1 := Lib.hid h1
  have J1 := Lib.hid j1
  have H2 := Lib.hid h2
  have J2 := Lib.hid j2
  clear ol1 om1 ol2 om2 h1 j1 h2 j2 hT
  unfold out2
  obtain ⟨RR, hRR⟩ : ∃ RR, (if rchk s1 l1 m1 ≠ 0 then ((false, 0, 0, rchk s1 l1 m1) : Bool × Nat × Nat × Int) else if rchk s2 l2 m2 ≠ 0 then (false, 0, 0, rchk s2 l2 m2) else outX (fr s1 l1 m1 + fr s2 l2 m2)) = RR := ⟨_, rfl⟩
  rw [hRR] at CW ⊢
  clear hRR
  generalize l1.length = n1 at *
  generalize m1.length = d1 at *
  generalize l2.length = n2 at *
  generalize m2.length = d2 at *
  go_enter Tryz.func12, Tryz.ntmps12
  go_wp2_with (with_reducible refine G.any_mark _ ?_; (try generalize Array.size (World.heap (G.w _)) = bk); (try dsimp only [List.set_cons_zero, List.set_cons_succ]); (try clear g); intro g)
  refine (CW.out _ _ ⟨(g.cell0 0).trans rfl, (g.cell0 1).trans rfl, (g.cell0 2).trans rfl⟩ (G.sl g (by simp) H1.out) (G.sl g (by simp) J1.out) ⟨(g.cell0 3).trans rfl, (g.cell0 4).trans rfl, (g.cell0 5).trans rfl⟩ (G.sl g (by simp) H2.out) (G.sl g (by simp) J2.out) (G.tab g HT.out)).mono ?_
  rintro e w1 ⟨Z1, z1, R1, Z2, z2, R2, rfl, hz1, hz2, hn1, hn2⟩
  have ho1 := fun k o hk => Nat.le_trans (G.chg _).size (hn1.new k o hk)
  have ho2 := fun k o hk => Nat.le_trans (G.chg _).size (hn2.new k o hk)
  obtain ⟨g1, rfl⟩ := G.new2_ex _ hn1 hn2
  clear hn1 hn2
  (try clear g)
  revert g1
  intro g
  go_wp2_with (with_reducible refine G.any_mark _ ?_; (try generalize Array.size (World.heap (G.w _)) = bk); (try dsimp only [List.set_cons_zero, List.set_cons_succ]); (try clear g); intro g)
  refine bodyPost_ret (v := .tuple #[.agg #[.bool RR.1, .slice Z1 (limbs RR.2.1).length z1, .slice Z2 (limbs RR.2.2.1).length z2], .int .i64 RR.2.2.2]) (by simp [results, Tryz.results12, go_sem]) rfl ?_
  exact ⟨Z1, z1, R1, Z2, z2, R2, rfl, hz1, hz2, G.pass _ (by simp) ho1, G.pass _ (by simp) ho2⟩
set_option maxRecDepth 20000 in
set_option maxHeartbeats 2000000 in
theorem qSub_any (s1 s2 : Bool) (A1 B1 A2 B2 : Option Addr) (c1 k1 c2 k2 : Nat) (l1 m1 l2 m2 : List Nat) (w : World) (h1 : SlW w A1 c1 l1) (j1 : SlW w B1 k1 m1) (h2 : SlW w A2 c2 l2) (j2 : SlW w B2 k2 m2) (hT : Tab w) :
    Calls Tryz.prog 14 #[.agg #[.bool s1, .slice A1 l1.length c1, .slice B1 m1.length k1], .agg #[.bool s2, .slice A2 l2.length c2, .slice B2 m2.length k2]] w (RPE (out2 (rchk s1 l1 m1) (rchk s2 l2 m2) (outX (fr s1 l1 m1 - fr s2 l2 m2))) w) := by
  refine calls_b fun g => ?_
  have ol1 := h1.ok
  have om1 := j1.ok
  have ol2 := h2.ok
  have om2 := j2.ok
  have CW := Lib.hid (fun lb w p1 a1 b1 p2 a2 b2 ht => with_sub lb (outX (fr s1 l1 m1 - fr s2 l2 m2)) s1 A1 B1 c1 k1 l1 m1 s2 A2 B2 c2 k2 l2 m2 w p1 a1 b1 p2 a2 b2 ht (fun r1 r2 w' bF capF hc f1 f2 x1 y1 x2 y2 t => by
    obtain ⟨e1, e2, e3, _, _, e6, e7⟩ := rchk_ok ol1 om1 r1
    obtain ⟨e1', e2', e3', _, _, e6', e7'⟩ := rchk_ok ol2 om2 r2
    have := sub1_any bF capF s1 s2 A1 B1 A2 B2 c1 k1 c2 k2 (val l1) (val m1) (val l2) (val m2) w' (by rw [← e1, ← e2]; exact f1) (by rw [← e1', ← e2']; exact f2) hc (by rw [← e1]; exact x1) (by rw [← e2]; exact y1) (by rw [← e1']; exact x2) (by rw [← e2']; exact y2) t (by rw [← e1]; omega) (by rw [← e2]; omega) (by rw [← e1']; omega) (by rw [← e2']; omega) e3 e3'
    exact this))
  have HT := Lib.hid hT
  have H1 := Lib.hid h1
  have J1 := Lib.hid j1
  have H2 := Lib.hid h2
  have J2 := Lib.hid j2
  clear ol1 om1 ol2 om2 h1 j1 h2 j2 hT
  unfold out2
  obtain ⟨RR, hRR⟩ : ∃ RR, (if rchk s1 l1 m1 ≠ 0 then ((false, 0, 0, rchk s1 l1 m1) : Bool × Nat × Nat × Int) else if rchk s2 l2 m2 ≠ 0 then (false, 0, 0, rchk s2 l2 m2) else outX (fr s1 l1 m1 - fr s2 l2 m2)) = RR := ⟨_, rfl⟩
  rw [hRR] at CW ⊢
  clear hRR
  generalize l1.length = n1 at *
  generalize m1.length = d1 at *
  generalize l2.length = n2 at *
  generalize m2.length = d2 at *
  go_enter Tryz.func14, Tryz.ntmps14
  go_wp2_with (with_reducible refine G.any_mark _ ?_; (try generalize Array.size (World.heap (G.w _)) = bk); (try dsimp only [List.set_cons_zero, List.set_cons_succ]); (try clear g); intro g)
  refine (CW.out _ _ ⟨(g.cell0 0).trans rfl, (g.cell0 1).trans rfl, (g.cell0 2).trans rfl⟩ (G.sl g (by simp) H1.out) (G.sl g (by simp) J1.out) ⟨(g.cell0 3).trans rfl, (g.cell0 4).trans rfl, (g.cell0 5).trans rfl⟩ (G.sl g (by simp) H2.out) (G.sl g (by simp) J2.out) (G.tab g HT.out)).mono ?_
  rintro e w1 ⟨Z1, z1, R1, Z2, z2, R2, rfl, hz1, hz2, hn1, hn2⟩
  have ho1 := fun k o hk => Nat.le_trans (G.chg _).size (hn1.new k o hk)
  have ho2 := fun k o hk => Nat.le_trans (G.chg _).size (hn2.new k o hk)
  obtain ⟨g1, rfl⟩ := G.new2_ex _ hn1 hn2
  clear hn1 hn2
  (try clear g)
  revert g1
  intro g
  go_wp2_with (with_reducible refine G.any_mark _ ?_; (try generalize Array.size (World.heap (G.w _)) = bk); (try dsimp only [List.set_cons_zero, List.set_cons_succ]); (try clear g); intro g)
  refine bodyPost_ret (v := .tuple #[.agg #[.bool RR.1, .slice Z1 (limbs RR.2.1).length z1, .slice Z2 (limbs RR.2.2.1).length z2], .int .i64 RR.2.2.2]) (by simp [results, Tryz.results14, go_sem]) rfl ?_
  exact ⟨Z1, z1, R1, Z2, z2, R2, rfl, hz1, hz2, G.pass _ (by simp) ho1, G.pass _ (by simp) ho2⟩
set_option maxRecDepth 20000 in
set_option maxHeartbeats 2000000 in
theorem qMul_any (s1 s2 : Bool) (A1 B1 A2 B2 : Option Addr) (c1 k1 c2 k2 : Nat) (l1 m1 l2 m2 : List Nat) (w : World) (h1 : SlW w A1 c1 l1) (j1 : SlW w B1 k1 m1) (h2 : SlW w A2 c2 l2) (j2 : SlW w B2 k2 m2) (hT : Tab w) :
    Calls Tryz.prog 16 #[.agg #[.bool s1, .slice A1 l1.length c1, .slice B1 m1.length k1], .agg #[.bool s2, .slice A2 l2.length c2, .slice B2 m2.length k2]] w (RPE (out2 (rchk s1 l1 m1) (rchk s2 l2 m2) (outX (fr s1 l1 m1 * fr s2 l2 m2))) w) := by
  refine calls_b fun g => ?_
  have ol1 := h1.ok
  have om1 := j1.ok
  have ol2 := h2.ok
  have om2 := j2.ok
  have CW := Lib.hid (fun lb w p1 a1 b1 p2 a2 b2 ht => with_mul lb (outX (fr s1 l1 m1 * fr s2 l2 m2)) s1 A1 B1 c1 k1 l1 m1 s2 A2 B2 c2 k2 l2 m2 w p1 a1 b1 p2 a2 b2 ht (fun r1 r2 w' bF capF hc f1 f2 x1 y1 x2 y2 t => by
    obtain ⟨e1, e2, e3, _, _, e6, e7⟩ := rchk_ok ol1 om1 r1
    obtain ⟨e1', e2', e3', _, _, e6', e7'⟩ := rchk_ok ol2 om2 r2
    have := mul1_any bF capF s1 s2 A1 B1 A2 B2 c1 k1 c2 k2 (val l1) (val m1) (val l2) (val m2) w' (by rw [← e1, ← e2]; exact f1) (by rw [← e1', ← e2']; exact f2) hc (by rw [← e1]; exact x1) (by rw [← e2]; exact y1) (by rw [← e1']; exact x2) (by rw [← e2']; exact y2) t (by rw [← e1]; omega) (by rw [← e2]; omega) (by rw [← e1']; omega) (by rw [← e2']; omega) e3 e3'
    exact this))
  have HT := Lib.hid hT
  have H1 := Lib.hid h1
  have J1 := Lib.hid j1
  have H2 := Lib.hid h2
  have J2 := Lib.hid j2
  clear ol1 om1 ol2 om2 h1 j1 h2 j2 hT
  unfold out2
  obtain ⟨RR, hRR⟩ : ∃ RR, (if rchk s1 l1 m1 ≠ 0 then ((false, 0, 0, rchk s1 l1 m1) : Bool × Nat × Nat × Int) else if rchk s2 l2 m2 ≠ 0 then (false, 0, 0, rchk s2 l2 m2) else outX (fr s1 l1 m1 * fr s2 l2 m2)) = RR := ⟨_, rfl⟩
  rw [hRR] at CW ⊢
  clear hRR
  generalize l1.length = n1 at *
  generalize m1.length = d1 at *
  generalize l2.length = n2 at *
  generalize m2.length = d2 at *
  go_enter Tryz.func16, Tryz.ntmps16
  go_wp2_with (with_reducible refine G.any_mark _ ?_; (try generalize Array.size (World.heap (G.w _)) = bk); (try dsimp only [List.set_cons_zero, List.set_cons_succ]); (try clear g); intro g)
  refine (CW.out _ _ ⟨(g.cell0 0).trans rfl, (g.cell0 1).trans rfl, (g.cell0 2).trans rfl⟩ (G.sl g (by simp) H1.out) (G.sl g (by simp) J1.out) ⟨(g.cell0 3).trans rfl, (g.cell0 4).trans rfl, (g.cell0 5).trans rfl⟩ (G.sl g (by simp) H2.out) (G.sl g (by simp) J2.out) (G.tab g HT.out)).mono ?_
  rintro e w1 ⟨Z1, z1, R1, Z2, z2, R2, rfl, hz1, hz2, hn1, hn2⟩
  have ho1 := fun k o hk => Nat.le_trans (G.chg _).size (hn1.new k o hk)
  have ho2 := fun k o hk => Nat.le_trans (G.chg _).size (hn2.new k o hk)
  obtain ⟨g1, rfl⟩ := G.new2_ex _ hn1 hn2
  clear hn1 hn2
  (try clear g)
  revert g1
  intro g
  go_wp2_with (with_reducible refine G.any_mark _ ?_; (try generalize Array.size (World.heap (G.w _)) = bk); (try dsimp only [List.set_cons_zero, List.set_cons_succ]); (try clear g); intro g)
  refine bodyPost_ret (v := .tuple #[.agg #[.bool RR.1, .slice Z1 (limbs RR.2.1).length z1, .slice Z2 (limbs RR.2.2.1).length z2], .int .i64 RR.2.2.2]) (by simp [results, Tryz.results16, go_sem]) rfl ?_
  exact ⟨Z1, z1, R1, Z2, z2, R2, rfl, hz1, hz2, G.pass _ (by simp) ho1, G.pass _ (by simp) ho2⟩
end Go.Proofs.YtjdnpkicdmapnaaGreatDoor
namespace Go.Proofs.YtjdnpkicdmapnaaGreatDoor
open Go.RowKit GW NL
theorem limbs_len0 : (limbs 0).length = 0 := by rw [limbs_zero]; rfl
/-- the quotient, or ErrZero -/
def divX (x y : Rat) (z : Nat) : Bool × Nat × Nat × Int := if z = 0 then (false, 0, 0, 6) else outX (x / y)
set_option maxRecDepth 20000 in
set_option maxHeartbeats 4000000 in
theorem divz_any (b cap : Nat) (s1 s2 : Bool) (A1 B1 A2 B2 : Option Addr) (c1 k1 c2 k2 n1 d1 n2 d2 : Nat) (w : World) (f1 : FrAt w b 0 s1 A1 n1 c1 B1 d1 k1) (f2 : FrAt w b 3 s2 A2 n2 c2 B2 d2 k2) (hcap : 2 ≤ cap) (hz : n2 = 0) :
    Calls Tryz.prog 53 #[.slice (some ⟨b, 0, none⟩) 2 cap] w (RPE (false, 0, 0, 6) w) := by
  subst hz
  refine calls_b fun g => ?_
  have E4 := fun (M : List Blk) (g : G w [] M [heapOf w]) => G.old g (List.mem_cons_self ..) f2.c1
  clear f1 f2
  have hcap2 : (2 : Int) ≤ (cap : Int) := by omega
  go_enter Tryz.func53, Tryz.ntmps53
  go_wp2_with (with_reducible refine G.any_mark _ ?_; (try generalize Array.size (World.heap (G.w _)) = bk); (try dsimp only [List.set_cons_zero, List.set_cons_succ]); (try clear g); intro g)
  refine bodyPost_ret (v := .tuple #[.agg #[.bool false, .slice none 0 0, .slice none 0 0], .int .i64 6]) (by simp [results, Tryz.results53, go_sem]) rfl ?_
  exact rpe_err _ _
set_option maxRecDepth 20000 in
set_option maxHeartbeats 2000000 in
theorem qDiv_any (s1 s2 : Bool) (A1 B1 A2 B2 : Option Addr) (c1 k1 c2 k2 : Nat) (l1 m1 l2 m2 : List Nat) (w : World) (h1 : SlW w A1 c1 l1) (j1 : SlW w B1 k1 m1) (h2 : SlW w A2 c2 l2) (j2 : SlW w B2 k2 m2) (hT : Tab w) :
    Calls Tryz.prog 18 #[.agg #[.bool s1, .slice A1 l1.length c1, .slice B1 m1.length k1], .agg #[.bool s2, .slice A2 l2.length c2, .slice B2 m2.length k2]] w (RPE (out2 (rchk s1 l1 m1) (rchk s2 l2 m2) (divX (fr s1 l1 m1) (fr s2 l2 m2) (val l2))) w) := by
  refine calls_b fun g => ?_
  have ol1 := h1.ok
  have om1 := j1.ok
  have ol2 := h2.ok
  have om2 := j2.ok
  have CW := Lib.hid (fun lb w p1 a1 b1 p2 a2 b2 ht => with_div lb (divX (fr s1 l1 m1) (fr s2 l2 m2) (val l2)) s1 A1 B1 c1 k1 l1 m1 s2 A2 B2 c2 k2 l2 m2 w p1 a1 b1 p2 a2 b2 ht (fun r1 r2 w' bF capF hc f1 f2 x1 y1 x2 y2 t => by
    obtain ⟨e1, e2, e3, _, _, e6, e7⟩ := rchk_ok ol1 om1 r1
    obtain ⟨e1', e2', e3', _, _, e6', e7'⟩ := rchk_ok ol2 om2 r2
    by_cases hz : val l2 = 0
    · have := divz_any bF capF s1 s2 A1 B1 A2 B2 c1 k1 c2 k2 l1.length m1.length l2.length m2.length w' f1 f2 hc (by rw [e1', hz]; exact limbs_len0)
      rw [divX, if_pos hz]
      exact this
    · rw [divX, if_neg hz]
      have := div1_any bF capF s1 s2 A1 B1 A2 B2 c1 k1 c2 k2 (val l1) (val m1) (val l2) (val m2) w' (by rw [← e1, ← e2]; exact f1) (by rw [← e1', ← e2']; exact f2) hc (by rw [← e1]; exact x1) (by rw [← e2]; exact y1) (by rw [← e1']; exact x2) (by rw [← e2']; exact y2) t (by rw [← e1]; omega) (by rw [← e2]; omega) (by rw [← e1']; omega) (by rw [← e2']; omega) e3 e3' hz
      exact this))
  have HT := Lib.hid hT
  have H1 := Lib.hid h1
  have J1 := Lib.hid j1
  have H2 := Lib.hid h2
  have J2 := Lib.hid j2
  clear ol1 om1 ol2 om2 h1 j1 h2 j2 hT
  unfold out2
  obtain ⟨RR, hRR⟩ : ∃ RR, (if rchk s1 l1 m1 ≠ 0 then ((false, 0, 0, rchk s1 l1 m1) : Bool × Nat × Nat × Int) else if rchk s2 l2 m2 ≠ 0 then (false, 0, 0, rchk s2 l2 m2) else divX (fr s1 l1 m1) (fr s2 l2 m2) (val l2)) = RR := ⟨_, rfl⟩
  rw [hRR] at CW ⊢
  clear hRR
  generalize l1.length = n1 at *
  generalize m1.length = d1 at *
  generalize l2.length = n2 at *
  generalize m2.length = d2 at *
  go_enter Tryz.func18, Tryz.ntmps18
  go_wp2_with (with_reducible refine G.any_mark _ ?_; (try generalize Array.size (World.heap (G.w _)) = bk); (try dsimp only [List.set_cons_zero, List.set_cons_succ]); (try clear g); intro g)
  refine (CW.out _ _ ⟨(g.cell0 0).trans rfl, (g.cell0 1).trans rfl, (g.cell0 2).trans rfl⟩ (G.sl g (by simp) H1.out) (G.sl g (by simp) J1.out) ⟨(g.cell0 3).trans rfl, (g.cell0 4).trans rfl, (g.cell0 5).trans rfl⟩ (G.sl g (by simp) H2.out) (G.sl g (by simp) J2.out) (G.tab g HT.out)).mono ?_
  rintro e w1 ⟨Z1, z1, R1, Z2, z2, R2, rfl, hz1, hz2, hn1, hn2⟩
  have ho1 := fun k o hk => Nat.le_trans (G.chg _).size (hn1.new k o hk)
  have ho2 := fun k o hk => Nat.le_trans (G.chg _).size (hn2.new k o hk)
  obtain ⟨g1, rfl⟩ := G.new2_ex _ hn1 hn2
  clear hn1 hn2
  (try clear g)
  revert g1
  intro g
  go_wp2_with (with_reducible refine G.any_mark _ ?_; (try generalize Array.size (World.heap (G.w _)) = bk); (try dsimp only [List.set_cons_zero, List.set_cons_succ]); (try clear g); intro g)
  refine bodyPost_ret (v := .tuple #[.agg #[.bool RR.1, .slice Z1 (limbs RR.2.1).length z1, .slice Z2 (limbs RR.2.2.1).length z2], .int .i64 RR.2.2.2]) (by simp [results, Tryz.results18, go_sem]) rfl ?_
  exact ⟨Z1, z1, R1, Z2, z2, R2, rfl, hz1, hz2, G.pass _ (by simp) ho1, G.pass _ (by simp) ho2⟩
set_option maxRecDepth 20000 in
set_option maxHeartbeats 2000000 in
theorem qNeg_any (s1 : Bool) (A1 B1 : Option Addr) (c1 k1 : Nat) (l1 m1 : List Nat) (w : World) (h1 : SlW w A1 c1 l1) (j1 : SlW w B1 k1 m1) (hT : Tab w) :
    Calls Tryz.prog 10 #[.agg #[.bool s1, .slice A1 l1.length c1, .slice B1 m1.length k1]] w (RPE (out1 (rchk s1 l1 m1) (outP (!s1 && decide (0 < l1.length)) (val l1) (val m1))) w) := by
  refine calls_b fun g => ?_
  have ol1 := h1.ok
  have om1 := j1.ok
  have CW := Lib.hid (fun lb w p1 a1 b1 ht => with_neg lb (outP (!s1 && decide (0 < l1.length)) (val l1) (val m1)) s1 A1 B1 c1 k1 l1 m1 w p1 a1 b1 ht (fun r1 w' bF capF hc f1 x1 y1 t => by
    obtain ⟨e1, e2, e3, _, e5, e6, e7⟩ := rchk_ok ol1 om1 r1
    have := neg1_any bF capF s1 A1 B1 c1 k1 (val l1) (val m1) w' (by rw [← e1, ← e2]; exact f1) hc (by rw [← e1]; exact x1) (by rw [← e2]; exact y1) t (by rw [← e1]; omega) (by rw [← e2]; omega) e3
    (try rw [← e1] at this)
    exact this))
  have HT := Lib.hid hT
  have H1 := Lib.hid h1
  have J1 := Lib.hid j1
  clear ol1 om1 h1 j1 hT
  unfold out1
  obtain ⟨RR, hRR⟩ : ∃ RR, (if rchk s1 l1 m1 ≠ 0 then ((false, 0, 0, rchk s1 l1 m1) : Bool × Nat × Nat × Int) else outP (!s1 && decide (0 < l1.length)) (val l1) (val m1)) = RR := ⟨_, rfl⟩
  rw [hRR] at CW ⊢
  clear hRR
  generalize l1.length = n1 at *
  generalize m1.length = d1 at *
  go_enter Tryz.func10, Tryz.ntmps10
  go_wp2_with (with_reducible refine G.any_mark _ ?_; (try generalize Array.size (World.heap (G.w _)) = bk); (try dsimp only [List.set_cons_zero, List.set_cons_succ]); (try clear g); intro g)
  refine (CW.out _ _ ⟨(g.cell0 0).trans rfl, (g.cell0 1).trans rfl, (g.cell0 2).trans rfl⟩ (G.sl g (by simp) H1.out) (G.sl g (by simp) J1.out) (G.tab g HT.out)).mono ?_
  rintro e w1 ⟨Z1, z1, R1, Z2, z2, R2, rfl, hz1, hz2, hn1, hn2⟩
  have ho1 := fun k o hk => Nat.le_trans (G.chg _).size (hn1.new k o hk)
  have ho2 := fun k o hk => Nat.le_trans (G.chg _).size (hn2.new k o hk)
  obtain ⟨g1, rfl⟩ := G.new2_ex _ hn1 hn2
  clear hn1 hn2
  (try clear g)
  revert g1
  intro g
  go_wp2_with (with_reducible refine G.any_mark _ ?_; (try generalize Array.size (World.heap (G.w _)) = bk); (try dsimp only [List.set_cons_zero, List.set_cons_succ]); (try clear g); intro g)
  refine bodyPost_ret (v := .tuple #[.agg #[.bool RR.1, .slice Z1 (limbs RR.2.1).length z1, .slice Z2 (limbs RR.2.2.1).length z2], .int .i64 RR.2.2.2]) (by simp [results, Tryz.results10, go_sem]) rfl ?_
  exact ⟨Z1, z1, R1, Z2, z2, R2, rfl, hz1, hz2, G.pass _ (by simp) ho1, G.pass _ (by simp) ho2⟩
set_option maxRecDepth 20000 in
set_option maxHeartbeats 2000000 in
theorem qFloor_any (s1 : Bool) (A1 B1 : Option Addr) (c1 k1 : Nat) (l1 m1 : List Nat) (w : World) (h1 : SlW w A1 c1 l1) (j1 : SlW w B1 k1 m1) (hT : Tab w) :
    Calls Tryz.prog 35 #[.agg #[.bool s1, .slice A1 l1.length c1, .slice B1 m1.length k1]] w (RPE (out1 (rchk s1 l1 m1) (outP (s1 && decide (flq s1 (val l1) (val m1) ≠ 0)) (flq s1 (val l1) (val m1)) 1)) w) := by
  refine calls_b fun g => ?_
  have ol1 := h1.ok
  have om1 := j1.ok
  have CW := Lib.hid (fun lb w p1 a1 b1 ht => with_floor lb (outP (s1 && decide (flq s1 (val l1) (val m1) ≠ 0)) (flq s1 (val l1) (val m1)) 1) s1 A1 B1 c1 k1 l1 m1 w p1 a1 b1 ht (fun r1 w' bF capF hc f1 x1 y1 t => by
    obtain ⟨e1, e2, e3, _, e5, e6, e7⟩ := rchk_ok ol1 om1 r1
    have := floor1_any bF capF s1 A1 B1 c1 k1 (val l1) (val m1) w' (by rw [← e1, ← e2]; exact f1) hc (by rw [← e1]; exact x1) (by rw [← e2]; exact y1) t (by rw [← e1]; omega) (by rw [← e2]; omega) e3
    (try rw [← e1] at this)
    exact this))
  have HT := Lib.hid hT
  have H1 := Lib.hid h1
  have J1 := Lib.hid j1
  clear ol1 om1 h1 j1 hT
  unfold out1
  obtain ⟨RR, hRR⟩ : ∃ RR, (if rchk s1 l1 m1 ≠ 0 then ((false, 0, 0, rchk s1 l1 m1) : Bool × Nat × Nat × Int) else outP (s1 && decide (flq s1 (val l1) (val m1) ≠ 0)) (flq s1 (val l1) (val m1)) 1) = RR := ⟨_, rfl⟩
  rw [hRR] at CW ⊢
  clear hRR
  generalize l1.length = n1 at *
  generalize m1.length = d1 at *
  go_enter Tryz.func35, Tryz.ntmps35
  go_wp2_with (with_reducible refine G.any_mark _ ?_; (try generalize Array.size (World.heap (G.w _)) = bk); (try dsimp only [List.set_cons_zero, List.set_cons_succ]); (try clear g); intro g)
  refine (CW.out _ _ ⟨(g.cell0 0).trans rfl, (g.cell0 1).trans rfl, (g.cell0 2).trans rfl⟩ (G.sl g (by simp) H1.out) (G.sl g (by simp) J1.out) (G.tab g HT.out)).mono ?_
  rintro e w1 ⟨Z1, z1, R1, Z2, z2, R2, rfl, hz1, hz2, hn1, hn2⟩
  have ho1 := fun k o hk => Nat.le_trans (G.chg _).size (hn1.new k o hk)
  have ho2 := fun k o hk => Nat.le_trans (G.chg _).size (hn2.new k o hk)
  obtain ⟨g1, rfl⟩ := G.new2_ex _ hn1 hn2
  clear hn1 hn2
  (try clear g)
  revert g1
  intro g
  go_wp2_with (with_reducible refine G.any_mark _ ?_; (try generalize Array.size (World.heap (G.w _)) = bk); (try dsimp only [List.set_cons_zero, List.set_cons_succ]); (try clear g); intro g)
  refine bodyPost_ret (v := .tuple #[.agg #[.bool RR.1, .slice Z1 (limbs RR.2.1).length z1, .slice Z2 (limbs RR.2.2.1).length z2], .int .i64 RR.2.2.2]) (by simp [results, Tryz.results35, go_sem]) rfl ?_
  exact ⟨Z1, z1, R1, Z2, z2, R2, rfl, hz1, hz2, G.pass _ (by simp) ho1, G.pass _ (by simp) ho2⟩
set_option maxRecDepth 20000 in
set_option maxHeartbeats 2000000 in
theorem qRound_any (s1 : Bool) (A1 B1 : Option Addr) (c1 k1 : Nat) (l1 m1 : List Nat) (w : World) (h1 : SlW w A1 c1 l1) (j1 : SlW w B1 k1 m1) (hT : Tab w) :
    Calls Tryz.prog 36 #[.agg #[.bool s1, .slice A1 l1.length c1, .slice B1 m1.length k1]] w (RPE (out1 (rchk s1 l1 m1) (outP (s1 && decide (rdq (val l1) (val m1) ≠ 0)) (rdq (val l1) (val m1)) 1)) w) := by
  refine calls_b fun g => ?_
  have ol1 := h1.ok
  have om1 := j1.ok
  have CW := Lib.hid (fun lb w p1 a1 b1 ht => with_round lb (outP (s1 && decide (rdq (val l1) (val m1) ≠ 0)) (rdq (val l1) (val m1)) 1) s1 A1 B1 c1 k1 l1 m1 w p1 a1 b1 ht (fun r1 w' bF capF hc f1 x1 y1 t => by
    obtain ⟨e1, e2, e3, _, e5, e6, e7⟩ := rchk_ok ol1 om1 r1
    have := round1_any bF capF s1 A1 B1 c1 k1 (val l1) (val m1) w' (by rw [← e1, ← e2]; exact f1) hc (by rw [← e1]; exact x1) (by rw [← e2]; exact y1) t (by rw [← e1]; omega) (by rw [← e2]; omega) e3
    (try rw [← e1] at this)
    exact this))
  have HT := Lib.hid hT
  have H1 := Lib.hid h1
  have J1 := Lib.hid j1
  clear ol1 om1 h1 j1 hT
  unfold out1
  obtain ⟨RR, hRR⟩ : ∃ RR, (if rchk s1 l1 m1 ≠ 0 then ((false, 0, 0, rchk s1 l1 m1) : Bool × Nat × Nat × Int) else outP (s1 && decide (rdq (val l1) (val m1) ≠ 0)) (rdq (val l1) (val m1)) 1) = RR := ⟨_, rfl⟩
  rw [hRR] at CW ⊢
  clear hRR
  generalize l1.length = n1 at *
  generalize m1.length = d1 at *
  go_enter Tryz.func36, Tryz.ntmps36
  go_wp2_with (with_reducible refine G.any_mark _ ?_; (try generalize Array.size (World.heap (G.w _)) = bk); (try dsimp only [List.set_cons_zero, List.set_cons_succ]); (try clear g); intro g)
  refine (CW.out _ _ ⟨(g.cell0 0).trans rfl, (g.cell0 1).trans rfl, (g.cell0 2).trans rfl⟩ (G.sl g (by simp) H1.out) (G.sl g (by simp) J1.out) (G.tab g HT.out)).mono ?_
  rintro e w1 ⟨Z1, z1, R1, Z2, z2, R2, rfl, hz1, hz2, hn1, hn2⟩
  have ho1 := fun k o hk => Nat.le_trans (G.chg _).size (hn1.new k o hk)
  have ho2 := fun k o hk => Nat.le_trans (G.chg _).size (hn2.new k o hk)
  obtain ⟨g1, rfl⟩ := G.new2_ex _ hn1 hn2
  clear hn1 hn2
  (try clear g)
  revert g1
  intro g
  go_wp2_with (with_reducible refine G.any_mark _ ?_; (try generalize Array.size (World.heap (G.w _)) = bk); (try dsimp only [List.set_cons_zero, List.set_cons_succ]); (try clear g); intro g)
  refine bodyPost_ret (v := .tuple #[.agg #[.bool RR.1, .slice Z1 (limbs RR.2.1).length z1, .slice Z2 (limbs RR.2.2.1).length z2], .int .i64 RR.2.2.2]) (by simp [results, Tryz.results36, go_sem]) rfl ?_
  exact ⟨Z1, z1, R1, Z2, z2, R2, rfl, hz1, hz2, G.pass _ (by simp) ho1, G.pass _ (by simp) ho2⟩
end Go.Proofs.YtjdnpkicdmapnaaGreatDoor
namespace Go.Proofs.YtjdnpkicdmapnaaGreatDoor
open Go.RowKit GW NL
theorem and1_u32 (x : Nat) (hx : x < 4294967296) : bits .and .u32 (x : Int) 1 = ((x % 2 : Nat) : Int) := by
  rw [K3.and32, BitVec.toNat_and, BitVec.ofInt_natCast, BitVec.toNat_ofNat, Nat.mod_eq_of_lt (by omega), show (BitVec.ofInt 32 1).toNat = 1 from rfl, Nat.and_one_is_mod]
/-- a bit of a number in its limbs -/
theorem bit_limb {l : List Nat} (ho : Ok l) (k : Nat) : l.getD (k / 32) 0 / 2 ^ (k % 32) % 2 = val l / 2 ^ k % 2 := by
  rw [getD_val l ho, pow32]
  have hk : k = 32 * (k / 32) + k % 32 := by omega
  have hr : k % 32 < 32 := Nat.mod_lt _ (by decide)
  obtain ⟨q, hq⟩ : ∃ q, k / 32 = q := ⟨_, rfl⟩
  obtain ⟨r, hr'⟩ : ∃ r, k % 32 = r := ⟨_, rfl⟩
  rw [hq, hr'] at hk ⊢
  rw [hr'] at hr
  subst hk
  rw [Nat.pow_add, ← Nat.div_div_eq_div_mul]
  generalize val l / 2 ^ (32 * q) = y
  have e : 4294967296 = 2 ^ r * 2 ^ (32 - r) := by rw [← Nat.pow_add, show r + (32 - r) = 32 by omega]
  rw [e, Nat.mod_mul_right_div_self, Nat.mod_mod_of_dvd]
  exact ⟨2 ^ (32 - r - 1), by rw [← Nat.pow_succ', show (32 - r - 1).succ = 32 - r by omega]⟩
theorem tz_bit_lt {v k : Nat} (h : v ≠ 0) (hk : k < tz v) : v / 2 ^ k % 2 = 0 := by
  obtain ⟨e, _⟩ := od_spec v h
  have : v / 2 ^ k = 2 * (2 ^ (tz v - k - 1) * od v) := by
    conv => lhs; rw [e]
    rw [show 2 ^ tz v = 2 ^ k * (2 * 2 ^ (tz v - k - 1)) by rw [← Nat.pow_succ', ← Nat.pow_add]; congr 1; omega]
    rw [Nat.mul_assoc, Nat.mul_div_cancel_left _ (Nat.two_pow_pos k), Nat.mul_assoc]
  omega
theorem tz_bit_eq {v : Nat} (h : v ≠ 0) : v / 2 ^ tz v % 2 = 1 := (od_spec v h).2
theorem tz_bits_len {l : List Nat} (ho : Ok l) (h : val l ≠ 0) : tz (val l) < 32 * l.length := by
  obtain ⟨e, _⟩ := od_spec _ h
  have h1 : 2 ^ tz (val l) ≤ val l := by
    have := Nat.mul_le_mul_left (2 ^ tz (val l)) (Nat.one_le_iff_ne_zero.2 (od_pos h))
    omega
  have h2 := val_lt ho
  rw [pow32] at h2
  exact (Nat.pow_lt_pow_iff_right (by decide : 1 < 2)).1 (Nat.lt_of_le_of_lt h1 h2)
set_option maxRecDepth 20000 in
theorem rtwos_any (A : Option Addr) (c : Nat) (l : List Nat) (w : World) (h : SlW w A c l) (h0 : val l ≠ 0) :
    Calls Tryz.prog 97 #[.slice A l.length c] w fun e w' => e = .returned (.int .i64 (tz (val l) : Nat)) ∧ w = w' := by
  have hm := h.len
  have hmm := h.max
  have hc := h.cap
  have ho := h.ok
  have ht := tz_bits_len ho h0
  obtain ⟨n, hn⟩ : ∃ n, l.length = n := ⟨_, rfl⟩
  obtain ⟨t, htt⟩ : ∃ t, tz (val l) = t := ⟨_, rfl⟩
  rw [hn] at hm hc ht ⊢
  rw [htt] at ht ⊢
  have HN := Lib.hid hn
  have H0 := Lib.hid h0
  have HT := Lib.hid htt
  clear hn h0 htt
  go_enter Tryz.func97, Tryz.ntmps97
  go_wp2_with fail
  go_loopg [3] t (fun gk i wr => ∃ k : Nat, k + gk = t ∧ i = .int .i64 k ∧ wr = w)
  case atStart => exact ⟨0, by omega, rfl, rfl⟩
  case round =>
    obtain ⟨k, hkg, rfl, rfl⟩ := hrel
    obtain ⟨b, o, rfl, hcell⟩ := limW_cell h.lim (by rw [HN.out]; omega)
    have e1 := hcell (k / 32) (by rw [HN.out]; omega)
    clear hcell
    have hbit := bit_limb ho k
    have hxl := ho.getD (k / 32)
    have hq : ((k : Int).tdiv 32) = ((k / 32 : Nat) : Int) := by rw [Int.tdiv_eq_ediv_of_nonneg (by omega)]; omega
    have hr : ((k : Int).tmod 32) = ((k % 32 : Nat) : Int) := by rw [Int.tmod_eq_emod_of_nonneg (by omega)]; omega
    have hqn : ((k / 32 : Nat) : Int) < (n : Int) := by omega
    have hr32 : k % 32 < 32 := by omega
    have hb : bits .and .u32 (((l.getD (k / 32) 0 / 2 ^ (k % 32) : Nat)) : Int) 1 = ((val l / 2 ^ k % 2 : Nat) : Int) := by
      rw [and1_u32 _ (Nat.lt_of_le_of_lt (Nat.div_le_self _ _) hxl), hbit]
    clear hbit
    generalize l.getD (k / 32) 0 = x at *
    generalize hkq : k / 32 = q at *
    generalize hkr : k % 32 = r at *
    rw [show (((x / 2 ^ r : Nat)) : Int) = (x : Int) / 2 ^ r by rw [Int.natCast_ediv, Int.natCast_pow]; rfl] at hb
    by_cases hk : gk = 0
    · subst hk
      have hkt : k = t := by omega
      have HKT := Lib.hid hkt
      rw [show val l / 2 ^ k % 2 = 1 by rw [hkt, ← HT.out]; exact tz_bit_eq H0.out] at hb
      have hbz : (bits .and .u32 ((x : Int) / 2 ^ r) 1 == 0) = false := by rw [hb]; rfl
      clear hkt hb
      go_wp2_with fail
      go_ret
      exact ⟨ret_int (by rw [HKT.out]), rfl⟩
    · have HKT := Lib.hid (show k < t by omega)
      rw [show val l / 2 ^ k % 2 = 0 from tz_bit_lt H0.out (by rw [HT.out]; exact HKT.out)] at hb
      have hbz : (bits .and .u32 ((x : Int) / 2 ^ r) 1 == 0) = true := by rw [hb]; rfl
      clear hb
      go_wp2_with fail
      go_roundg (gk - 1)
      case measure => omega
      case rel => exact ⟨k + 1, by omega, by go_num, rfl⟩
end Go.Proofs.YtjdnpkicdmapnaaGreatDoor
namespace Go.Proofs.YtjdnpkicdmapnaaGreatDoor
open Go.RowKit GW NL
theorem G.oldm {w0 : World} {b : Nat} {X : List Nat} {M : List Blk} {I : List Frag} (g : G w0 X M I) (hI : heapBut w0 b ∈ I) {k o : Nat} {v : Value} (hne : k ≠ b) (h : w0.cell? ⟨k, o, none⟩ = some v) : g.w.cell? ⟨k, o, none⟩ = some v := by
  refine g.frag_cell hI ?_
  unfold World.cell? at h
  unfold Frag.cell heapBut
  simp only at h ⊢
  rw [if_neg hne]
  exact h
/-- block ob holds one int: what has cells of other kinds lies elsewhere -/
theorem ob_ne {w : World} {ob : Nat} {i : Int} (h : w.heap[ob]? = some (.cells #[.int .i64 i] 3 (0, 0))) {k o : Nat} {v : Value} (hc : w.cell? ⟨k, o, none⟩ = some v) (hv : ∀ j : Int, v ≠ .int .i64 j) : k ≠ ob := by
  rintro rfl
  simp only [World.cell?, h] at hc
  rcases o with _ | o
  · simp at hc; exact hv i hc.symm
  · simp at hc
theorem sl_ob {w : World} {ob : Nat} {i : Int} (h : w.heap[ob]? = some (.cells #[.int .i64 i] 3 (0, 0))) {A : Option Addr} {c : Nat} {l : List Nat} (hs : SlW w A c l) : (heapBut w ob).Sl A c l := by
  refine ⟨hs.cap, hs.max, hs.len, ?_, hs.ok⟩
  intro hl
  obtain ⟨b', o, e, cs, T, fr, hb, hc⟩ := hs.lim hl
  refine ⟨b', o, e, cs, T, fr, ?_, hc⟩
  unfold heapBut
  rw [if_neg]
  · exact hb
  · rintro rfl
    have h0 := hc 0 hl
    simp only [heapOf, h] at hb
    cases hb
    rcases o with _ | o
    · simp at h0
    · simp at h0
theorem tab_ob {w : World} {ob : Nat} {i : Int} (h : w.heap[ob]? = some (.cells #[.int .i64 i] 3 (0, 0))) (hT : Tab w) : ob ≠ 1 :=
  (ob_ne h (hT 0 (by decide)) (by intro j hj; cases hj)).symm
/-- the sign -/
def sgn (x : Rat) : Int := if rneg x = true then -1 else if rn x ≠ 0 then 1 else 0
/-- an error; block ob holds the int v -/
def RCE (ob : Nat) (v er : Int) (w : World) (e : Ending) (w' : World) : Prop := e = .returned (.tuple #[.agg #[.bool false, .slice none 0 0, .slice none 0 0], .int .i64 er]) ∧ Chg [ob] w w' ∧ w'.heap[ob]? = some (.cells #[.int .i64 v] 3 (0, 0))
set_option maxRecDepth 20000 in
set_option maxHeartbeats 4000000 in
theorem cmp1_any (ob b cap : Nat) (s1 s2 : Bool) (A1 B1 A2 B2 : Option Addr) (c1 k1 c2 k2 n1 d1 n2 d2 : Nat) (w : World) (hob : w.heap[ob]? = some (.cells #[.int .i64 0] 3 (0, 0))) (f1 : FrAt w b 0 s1 A1 (limbs n1).length c1 B1 (limbs d1).length k1) (f2 : FrAt w b 3 s2 A2 (limbs n2).length c2 B2 (limbs d2).length k2) (hcap : 2 ≤ cap) (h1 : SlW w A1 c1 (limbs n1)) (j1 : SlW w B1 k1 (limbs d1)) (h2 : SlW w A2 c2 (limbs n2)) (j2 : SlW w B2 k2 (limbs d2)) (hT : Tab w)
    (l1 : (limbs n1).length ≤ 10000000) (m1 : (limbs d1).length ≤ 10000000) (l2 : (limbs n2).length ≤ 10000000) (m2 : (limbs d2).length ≤ 10000000) (z1 : d1 ≠ 0) (z2 : d2 ≠ 0) :
    Calls Tryz.prog 56 #[.slice (some ⟨b, 0, none⟩) 2 cap, .pointer (some ⟨ob, 0, none⟩)] w (RCE ob (sgn (frac s1 n1 d1 - frac s2 n2 d2)) 0 w) := by
  have hbo : b ≠ ob := ob_ne hob f1.c0 (by intro j hj; cases hj)
  have hbt := tab_ob hob hT
  replace h1 := sl_ob hob h1
  replace j1 := sl_ob hob j1
  replace h2 := sl_ob hob h2
  replace j2 := sl_ob hob j2
  refine calls_m (cs := [.int .i64 0]) hob fun g => ?_
  clear hob
  rw [Rat.sub_eq_add_neg, ← frac_minus s2 n2 d2]
  have C0 := Lib.hid (fun w => minus_any s2 A2 B2 c2 k2 (limbs n2).length (limbs d2).length w)
  generalize (!s2 && decide (0 < (limbs n2).length)) = t2 at *
  have C1 := Lib.hid (fun w a b c d t => fplus_any s1 t2 A1 B1 A2 B2 c1 k1 c2 k2 n1 d1 n2 d2 w a b c d t l1 m1 l2 m2 z1 z2)
  have HT := Lib.hid hT
  have HBT := Lib.hid hbt
  have HBO := Lib.hid hbo
  have E0 := Lib.hid f1.c0
  have E1 := Lib.hid f1.c1
  have E2 := Lib.hid f1.c2
  have E3 := Lib.hid f2.c0
  have E4 := Lib.hid f2.c1
  have E5 := Lib.hid f2.c2
  clear hT f1 f2 z1 z2 hbt hbo
  generalize (limbs n1).length = ln1 at *
  generalize (limbs d1).length = ld1 at *
  generalize (limbs n2).length = ln2 at *
  generalize (limbs d2).length = ld2 at *
  generalize frac s1 n1 d1 + frac t2 n2 d2 = x at *
  obtain ⟨xs, hxs⟩ : ∃ s, rneg x = s := ⟨_, rfl⟩
  obtain ⟨xn, hxn⟩ : ∃ n, rn x = n := ⟨_, rfl⟩
  obtain ⟨xd, hxd⟩ : ∃ n, x.den = n := ⟨_, rfl⟩
  unfold sgn
  rw [hxs, hxn]
  unfold RNf at C1
  rw [hxs, hxn, hxd] at C1
  clear hxs hxn hxd
  obtain ⟨V, hV⟩ : ∃ V : Int, (if xs = true then -1 else if xn ≠ 0 then 1 else 0) = V := ⟨_, rfl⟩
  rw [hV]
  have HV := Lib.hid hV
  clear hV
  have hcap2 : (2 : Int) ≤ (cap : Int) := by omega
  go_enter Tryz.func56, Tryz.ntmps56
  go_wp2_with (with_reducible refine G.any_mark _ ?_; (try generalize Array.size (World.heap (G.w _)) = bk); (try dsimp only [List.set_cons_zero, List.set_cons_succ]); (try clear g); intro g)
  go_region_held3 (fun w' => w'.cell? ⟨b, 0, none⟩ = some (.bool s1) ∧ w'.cell? ⟨b, 1, none⟩ = some (.slice A1 ln1 c1) ∧ w'.cell? ⟨b, 2, none⟩ = some (.slice B1 ld1 k1) ∧ w'.cell? ⟨b, 3, none⟩ = some (.bool s2) ∧ w'.cell? ⟨b, 4, none⟩ = some (.slice A2 ln2 c2) ∧ w'.cell? ⟨b, 5, none⟩ = some (.slice B2 ld2 k2)) (((try simp only [G.drew_eq, G.drewN_eq]); exact ⟨G.oldm _ (by simp) HBO.out E0.out, G.oldm _ (by simp) HBO.out E1.out, G.oldm _ (by simp) HBO.out E2.out, G.oldm _ (by simp) HBO.out E3.out, G.oldm _ (by simp) HBO.out E4.out, G.oldm _ (by simp) HBO.out E5.out⟩)) (first
    | (go_at_call 41; (with_reducible refine (C0.out _).mono ?_); rintro e w1 ⟨rfl, hb⟩; obtain ⟨g1, rfl⟩ := G.call_ex _ hb; clear hb; (try clear g); revert g1; intro g)
    | (go_at_call 45; (with_reducible refine (C1.out _ ?_ ?_ ?_ ?_ ?_).mono ?_); (· exact G.sl _ (by simp) h1); (· exact G.sl _ (by simp) j1); (· exact G.sl _ (by simp) h2); (· exact G.sl _ (by simp) j2);  (· exact G.tab_m _ (b := ob) (by simp) HT.out HBT.out); rintro e w1 ⟨Y1, y1, Q1, Y2, y2, Q2, rfl, hy1, hy2, hn1, hn2⟩; obtain ⟨g1, rfl⟩ := G.new2_ex _ hn1 hn2; clear hn1 hn2; (try clear g); revert g1; intro g))
  all_goals clear hy1 hy2
  all_goals (obtain ⟨lx, hlx⟩ : ∃ lx, (limbs xn).length = lx := ⟨_, rfl⟩)
  all_goals rw [hlx]
  all_goals (rcases xs with _ | _)
  all_goals (by_cases hx0 : xn = 0)
  all_goals first
    | (have hl0 : lx = 0 := by rw [← hlx, hx0]; exact limbs_len0
       have hV := HV.out
       simp only [hx0, if_true, if_false, ne_eq, not_true_eq_false, not_false_eq_true, Bool.false_eq_true] at hV
       clear hx0 hlx C1 HV
       subst hl0 hV)
    | (have hl0 : (0 : Int) < (lx : Int) := by rw [← hlx]; have := (limbs_ne hx0).2; omega
       have hV := HV.out
       simp only [hx0, if_true, if_false, ne_eq, not_true_eq_false, not_false_eq_true, Bool.false_eq_true] at hV
       clear hx0 hlx C1 HV
       subst hV)
  all_goals go_wp2_with (with_reducible refine G.any_mark _ ?_; (try generalize Array.size (World.heap (G.w _)) = bk); (try dsimp only [List.set_cons_zero, List.set_cons_succ]); (try clear g); intro g)
  all_goals refine bodyPost_ret (v := .tuple #[.agg #[.bool false, .slice none 0 0, .slice none 0 0], .int .i64 0]) (by simp [results, Tryz.results56, go_sem]) rfl ?_
  all_goals exact ⟨rfl, G.chg _, G.blk2 _⟩
/-- what Cmp finds: the sign and the error -/
def cmpR (e1 e2 r : Int) : Int × Int := if e1 ≠ 0 then (0, e1) else if e2 ≠ 0 then (0, e2) else (r, 0)
set_option maxRecDepth 20000 in
set_option maxHeartbeats 4000000 in
theorem with_cmp (ob lb : Nat) (r : Int) (s1 : Bool) (A1 B1 : Option Addr) (c1 k1 : Nat) (l1 m1 : List Nat) (s2 : Bool) (A2 B2 : Option Addr) (c2 k2 : Nat) (l2 m2 : List Nat) (w : World) (hob : w.heap[ob]? = some (.cells #[.int .i64 0] 3 (0, 0))) (p1 : PtAt w lb 0 s1 A1 l1.length c1 B1 m1.length k1) (h1 : SlW w A1 c1 l1) (j1 : SlW w B1 k1 m1) (p2 : PtAt w lb 3 s2 A2 l2.length c2 B2 m2.length k2) (h2 : SlW w A2 c2 l2) (j2 : SlW w B2 k2 m2) (hT : Tab w)
    (hf : rchk s1 l1 m1 = 0 → rchk s2 l2 m2 = 0 → ∀ (w' : World) (bF capF : Nat), 2 ≤ capF → w'.heap[ob]? = some (.cells #[.int .i64 0] 3 (0, 0)) → FrAt w' bF 0 s1 A1 l1.length c1 B1 m1.length k1 → FrAt w' bF 3 s2 A2 l2.length c2 B2 m2.length k2 → SlW w' A1 c1 l1 → SlW w' B1 k1 m1 → SlW w' A2 c2 l2 → SlW w' B2 k2 m2 → Tab w' → Calls Tryz.prog 56 #[.slice (some ⟨bF, 0, none⟩) 2 capF, .pointer (some ⟨ob, 0, none⟩)] w' (RCE ob r 0 w')) :
    Calls Tryz.prog 39 #[.func (.func 56) #[] #[.pointer (some ⟨ob, 0, none⟩)], .slice (some ⟨lb, 0, none⟩) 2 2] w (RCE ob (cmpR (rchk s1 l1 m1) (rchk s2 l2 m2) r).1 (cmpR (rchk s1 l1 m1) (rchk s2 l2 m2) r).2 w) := by
  have hbo : lb ≠ ob := ob_ne hob p1.c0 (by intro j hj; cases hj)
  have hbt := tab_ob hob hT
  replace h1 := sl_ob hob h1
  replace j1 := sl_ob hob j1
  replace h2 := sl_ob hob h2
  replace j2 := sl_ob hob j2
  refine calls_m (cs := [.int .i64 0]) hob fun g => ?_
  clear hob
  have HBT := Lib.hid hbt
  clear hbt
  unfold cmpR
  have CK1 := Lib.hid (fun w a b t => rcheck s1 A1 B1 c1 k1 l1 m1 w a b t)
  have CO1 := Lib.hid (fun w => of_any s1 A1 B1 c1 k1 l1.length m1.length w)
  have E10 := fun (M : List Blk) (g : G w [ob] M [heapBut w ob]) => G.oldm g (List.mem_cons_self ..) hbo p1.c0
  have E11 := fun (M : List Blk) (g : G w [ob] M [heapBut w ob]) => G.oldm g (List.mem_cons_self ..) hbo p1.c1
  have E12 := fun (M : List Blk) (g : G w [ob] M [heapBut w ob]) => G.oldm g (List.mem_cons_self ..) hbo p1.c2
  have H1 := Lib.hid h1
  have J1 := Lib.hid j1
  obtain ⟨e1, he1⟩ : ∃ e, rchk s1 l1 m1 = e := ⟨_, rfl⟩
  rw [he1] at CK1 hf ⊢
  clear p1 h1 j1 he1
  have CK2 := Lib.hid (fun w a b t => rcheck s2 A2 B2 c2 k2 l2 m2 w a b t)
  have CO2 := Lib.hid (fun w => of_any s2 A2 B2 c2 k2 l2.length m2.length w)
  have E20 := fun (M : List Blk) (g : G w [ob] M [heapBut w ob]) => G.oldm g (List.mem_cons_self ..) hbo p2.c0
  have E21 := fun (M : List Blk) (g : G w [ob] M [heapBut w ob]) => G.oldm g (List.mem_cons_self ..) hbo p2.c1
  have E22 := fun (M : List Blk) (g : G w [ob] M [heapBut w ob]) => G.oldm g (List.mem_cons_self ..) hbo p2.c2
  have H2 := Lib.hid h2
  have J2 := Lib.hid j2
  obtain ⟨e2, he2⟩ : ∃ e, rchk s2 l2 m2 = e := ⟨_, rfl⟩
  rw [he2] at CK2 hf ⊢
  clear p2 h2 j2 he2
  have HF := Lib.hid hf
  have HT := Lib.hid hT
  obtain ⟨RR, hRR⟩ : ∃ RR, (if e1 ≠ 0 then ((0, e1) : Int × Int) else if e2 ≠ 0 then (0, e2) else (r, 0)) = RR := ⟨_, rfl⟩
  rw [hRR]
  clear hbo
  have HRR := Lib.hid hRR
  clear hf hT hRR
  generalize l1.length = n1 at *
  generalize m1.length = d1 at *
  generalize l2.length = n2 at *
  generalize m2.length = d2 at *
  obtain ⟨i0, hi, hz0, hz1, hz2⟩ := info_parts infoFr
  have HP1 := pts_one s1 A1 n1 c1 B1 d1 k1
  have HP2 := pts_one s2 A2 n2 c2 B2 d2 k2
  go_enter Tryz.func39, Tryz.ntmps39
  go_wp2_with (with_reducible refine G.any_mark _ ?_; (try generalize Array.size (World.heap (G.w _)) = bk); (try dsimp only [List.set_cons_zero, List.set_cons_succ]); (try clear g); intro g)
  obtain ⟨rb, rfl⟩ : ∃ rb, rb = bk := ⟨_, rfl⟩
  go_loopg [6, 12] 2 (fun gk s6 s12 wr => (gk = 2 ∧ s12 = .int .i64 0 ∧ s6 = .slice none 0 0 ∧ ∃ g : G w [ob] [(rb, 25, [.bool false, .slice none 0 0, .slice none 0 0]), (ob, 3, [.int .i64 0])] [heapBut w ob], wr = g.w) ∨ (gk = 1 ∧ s12 = .int .i64 1 ∧ e1 = 0 ∧ ∃ b cap cs, s6 = .slice (some ⟨b, 0, none⟩) 1 cap ∧ Row 61 3 1 ([Value.bool s1, .slice A1 n1 c1, .slice B1 d1 k1]) cap cs ∧ w.heap.size ≤ b ∧ ∃ g : G w [ob] [(b, 61, cs), (rb, 25, [.bool false, .slice none 0 0, .slice none 0 0]), (ob, 3, [.int .i64 0])] [heapBut w ob], wr = g.w) ∨ (gk = 0 ∧ s12 = .int .i64 2 ∧ e1 = 0 ∧ e2 = 0 ∧ ∃ b cap cs, s6 = .slice (some ⟨b, 0, none⟩) 2 cap ∧ Row 61 3 2 ([Value.bool s1, .slice A1 n1 c1, .slice B1 d1 k1] ++ [Value.bool s2, .slice A2 n2 c2, .slice B2 d2 k2]) cap cs ∧ w.heap.size ≤ b ∧ ∃ g : G w [ob] [(b, 61, cs), (rb, 25, [.bool false, .slice none 0 0, .slice none 0 0]), (ob, 3, [.int .i64 0])] [heapBut w ob], wr = g.w))
  case atStart => exact .inl ⟨rfl, rfl, rfl, g, rfl⟩
  case round =>
    clear g
    rcases hrel with ⟨rfl, rfl, rfl, g, rfl⟩ | ⟨rfl, rfl, rfl, b, cap, cs, rfl, hrow, hbw, g, rfl⟩ | ⟨rfl, rfl, rfl, rfl, b, cap, cs, rfl, hrow, hbw, g, rfl⟩
    · go_wp2_with (with_reducible refine G.any_mark _ ?_; (try generalize Array.size (World.heap (G.w _)) = bk); (try dsimp only [List.set_cons_zero, List.set_cons_succ]); (try clear g); intro g)
      (try (refine cmark _ ?_; (try dsimp only [List.set_cons_zero, List.set_cons_succ]); (try clear g); intro g))
      refine (CK1.out _ (G.sl g (by simp) H1.out) (G.sl g (by simp) J1.out) (G.tab_m g (b := ob) (by simp) HT.out HBT.out)).mono ?_
      rintro e w1 ⟨rfl, hb⟩
      obtain ⟨g1, rfl⟩ := G.call_ex _ hb
      clear hb
      (try clear g)
      revert g1
      intro g
      by_cases hez : e1 = 0
      · subst hez
        go_wp2_with (with_reducible refine G.any_mark _ ?_; (try generalize Array.size (World.heap (G.w _)) = bk); (try dsimp only [List.set_cons_zero, List.set_cons_succ]); (try clear g); intro g)
        refine (CO1.out _).mono ?_
        rintro e w1 ⟨rfl, hb⟩
        obtain ⟨g1, rfl⟩ := G.call_ex _ hb
        clear hb
        (try clear g)
        revert g1
        intro g
        obtain ⟨g2, hg2⟩ := G.less g (M' := [(rb, 25, [.bool false, .slice none 0 0, .slice none 0 0]), (ob, 3, [.int .i64 0])]) (by simp)
        rw [hg2]
        clear hg2 g
        revert g2
        intro g
        go_wp2_with (first | (with_reducible refine G.any_mark _ ?_; (try generalize Array.size (World.heap (G.w _)) = bk); (try dsimp only [List.set_cons_zero, List.set_cons_succ]); (try clear g); intro g) | (at_builtin; refine wpList_append_lit0 rfl _ _ 56 rfl 61 i0 _ 3 56 Tryz.underlying56 hi hz0 hz1 hz2 rfl (by decide) g rfl 1 rfl rfl HP1 (by decide) (by decide) (by decide) ?_; clear g; intro b cap cs g hb hrow))
        obtain ⟨g2, hg2⟩ := G.less g (M' := [(b, 61, cs), (rb, 25, [.bool false, .slice none 0 0, .slice none 0 0]), (ob, 3, [.int .i64 0])]) (by simp)
        go_roundg 1
        case measure => omega
        case rel => exact .inr (.inl ⟨by simp, by simp, by simp, b, cap, cs, rfl, hrow, hb, g2, hg2⟩)
      · have hne : ((e1 : Int) == 0) = false := by rw [beq_eq_false_iff_ne]; exact hez
        have hne2 : ((e1 : Int) != 0) = true := by rw [bne, hne]; rfl
        have HEZ := Lib.hid hez
        clear hez
        go_wp2_with (with_reducible refine G.any_mark _ ?_; (try generalize Array.size (World.heap (G.w _)) = bk); (try dsimp only [List.set_cons_zero, List.set_cons_succ]); (try clear g); intro g)
        refine bodyPost_ret (v := .tuple #[.agg #[.bool false, .slice none 0 0, .slice none 0 0], .int .i64 e1]) (by simp [results, Tryz.results39, go_sem]) rfl ?_
        rw [← HRR.out, if_pos HEZ.out]
        first | exact ⟨rfl, G.chg _, G.blk1 _⟩ | exact ⟨rfl, G.chg _, G.blk2 _⟩ | exact ⟨rfl, G.chg _, G.blk3 _⟩ | exact ⟨rfl, G.chg _, G.blk4 _⟩ | exact ⟨rfl, G.chg _, G.blk5 _⟩
    · go_wp2_with (with_reducible refine G.any_mark _ ?_; (try generalize Array.size (World.heap (G.w _)) = bk); (try dsimp only [List.set_cons_zero, List.set_cons_succ]); (try clear g); intro g)
      (try (refine cmark _ ?_; (try dsimp only [List.set_cons_zero, List.set_cons_succ]); (try clear g); intro g))
      refine (CK2.out _ (G.sl g (by simp) H2.out) (G.sl g (by simp) J2.out) (G.tab_m g (b := ob) (by simp) HT.out HBT.out)).mono ?_
      rintro e w1 ⟨rfl, hb⟩
      obtain ⟨g1, rfl⟩ := G.call_ex _ hb
      clear hb
      (try clear g)
      revert g1
      intro g
      by_cases hez : e2 = 0
      · subst hez
        go_wp2_with (with_reducible refine G.any_mark _ ?_; (try generalize Array.size (World.heap (G.w _)) = bk); (try dsimp only [List.set_cons_zero, List.set_cons_succ]); (try clear g); intro g)
        refine (CO2.out _).mono ?_
        rintro e w1 ⟨rfl, hb⟩
        obtain ⟨g1, rfl⟩ := G.call_ex _ hb
        clear hb
        (try clear g)
        revert g1
        intro g
        obtain ⟨g2, hg2⟩ := G.less g (M' := [(b, 61, cs), (rb, 25, [.bool false, .slice none 0 0, .slice none 0 0]), (ob, 3, [.int .i64 0])]) (by simp)
        rw [hg2]
        clear hg2 g
        revert g2
        intro g
        go_wp2_with (first | (with_reducible refine G.any_mark _ ?_; (try generalize Array.size (World.heap (G.w _)) = bk); (try dsimp only [List.set_cons_zero, List.set_cons_succ]); (try clear g); intro g) | (at_builtin; refine wpList_append_lit rfl _ _ 56 rfl 61 i0 _ 3 56 Tryz.underlying56 hi hz0 hz1 hz2 rfl (by decide) g hrow hbw rfl 1 rfl rfl HP2 (by decide) (by decide) (by decide) ?_; clear hrow hbw g; intro b cap cs g hb hrow))
        obtain ⟨g2, hg2⟩ := G.less g (M' := [(b, 61, cs), (rb, 25, [.bool false, .slice none 0 0, .slice none 0 0]), (ob, 3, [.int .i64 0])]) (by simp)
        go_roundg 0
        case measure => omega
        case rel => exact .inr (.inr (⟨by simp, by simp, by simp, by simp, b, cap, cs, rfl, hrow, hb, g2, hg2⟩))
      · have hne : ((e2 : Int) == 0) = false := by rw [beq_eq_false_iff_ne]; exact hez
        have hne2 : ((e2 : Int) != 0) = true := by rw [bne, hne]; rfl
        have HEZ := Lib.hid hez
        clear hez
        go_wp2_with (with_reducible refine G.any_mark _ ?_; (try generalize Array.size (World.heap (G.w _)) = bk); (try dsimp only [List.set_cons_zero, List.set_cons_succ]); (try clear g); intro g)
        refine bodyPost_ret (v := .tuple #[.agg #[.bool false, .slice none 0 0, .slice none 0 0], .int .i64 e2]) (by simp [results, Tryz.results39, go_sem]) rfl ?_
        rw [← HRR.out, if_neg (by decide), if_pos HEZ.out]
        first | exact ⟨rfl, G.chg _, G.blk1 _⟩ | exact ⟨rfl, G.chg _, G.blk2 _⟩ | exact ⟨rfl, G.chg _, G.blk3 _⟩ | exact ⟨rfl, G.chg _, G.blk4 _⟩ | exact ⟨rfl, G.chg _, G.blk5 _⟩
    · go_wp2_with (with_reducible refine G.any_mark _ ?_; (try generalize Array.size (World.heap (G.w _)) = bk); (try dsimp only [List.set_cons_zero, List.set_cons_succ]); (try clear g); intro g)
      refine (HF.out (by simp) (by simp) _ b cap hrow.le (G.blk2 g) ⟨row_at g (List.mem_cons_self ..) hrow (j := 0) rfl, row_at g (List.mem_cons_self ..) hrow (j := 1) rfl, row_at g (List.mem_cons_self ..) hrow (j := 2) rfl⟩ ⟨row_at g (List.mem_cons_self ..) hrow (j := 3) rfl, row_at g (List.mem_cons_self ..) hrow (j := 4) rfl, row_at g (List.mem_cons_self ..) hrow (j := 5) rfl⟩ (G.sl g (by simp) H1.out) (G.sl g (by simp) J1.out) (G.sl g (by simp) H2.out) (G.sl g (by simp) J2.out) (G.tab_m g (b := ob) (by simp) HT.out HBT.out)).mono ?_
      rintro e w1 ⟨rfl, hch, hcb⟩
      obtain ⟨g1, rfl⟩ := G.mut2 g (cs' := [.int .i64 r]) hch hcb
      clear hch hcb
      (try clear g)
      revert g1
      intro g
      go_wp2_with (with_reducible refine G.any_mark _ ?_; (try generalize Array.size (World.heap (G.w _)) = bk); (try dsimp only [List.set_cons_zero, List.set_cons_succ]); (try clear g); intro g)
      refine bodyPost_ret (v := .tuple #[.agg #[.bool false, .slice none 0 0, .slice none 0 0], .int .i64 0]) (by simp [results, Tryz.results39, go_sem]) rfl ?_
      rw [← HRR.out, if_neg (by decide), if_neg (by decide)]
      exact ⟨rfl, G.chg _, G.blk2 _⟩
end Go.Proofs.YtjdnpkicdmapnaaGreatDoor
namespace Go.Proofs.YtjdnpkicdmapnaaGreatDoor
open Go.RowKit GW NL
set_option maxRecDepth 20000 in
set_option maxHeartbeats 2000000 in
theorem qCmp_any (s1 s2 : Bool) (A1 B1 A2 B2 : Option Addr) (c1 k1 c2 k2 : Nat) (l1 m1 l2 m2 : List Nat) (w : World) (h1 : SlW w A1 c1 l1) (j1 : SlW w B1 k1 m1) (h2 : SlW w A2 c2 l2) (j2 : SlW w B2 k2 m2) (hT : Tab w) :
    Calls Tryz.prog 20 #[.agg #[.bool s1, .slice A1 l1.length c1, .slice B1 m1.length k1], .agg #[.bool s2, .slice A2 l2.length c2, .slice B2 m2.length k2]] w fun e w' => e = .returned (.tuple #[.int .i64 (cmpR (rchk s1 l1 m1) (rchk s2 l2 m2) (sgn (fr s1 l1 m1 - fr s2 l2 m2))).1, .int .i64 (cmpR (rchk s1 l1 m1) (rchk s2 l2 m2) (sgn (fr s1 l1 m1 - fr s2 l2 m2))).2]) ∧ Below w.heap.size w w' := by
  refine calls_b fun g => ?_
  have ol1 := h1.ok
  have om1 := j1.ok
  have ol2 := h2.ok
  have om2 := j2.ok
  have CW := Lib.hid (fun ob lb w hob p1 a1 b1 p2 a2 b2 ht => with_cmp ob lb (sgn (fr s1 l1 m1 - fr s2 l2 m2)) s1 A1 B1 c1 k1 l1 m1 s2 A2 B2 c2 k2 l2 m2 w hob p1 a1 b1 p2 a2 b2 ht (fun r1 r2 w' bF capF hc ho f1 f2 x1 y1 x2 y2 t => by
    obtain ⟨e1, e2, e3, _, _, e6, e7⟩ := rchk_ok ol1 om1 r1
    obtain ⟨e1', e2', e3', _, _, e6', e7'⟩ := rchk_ok ol2 om2 r2
    have := cmp1_any ob bF capF s1 s2 A1 B1 A2 B2 c1 k1 c2 k2 (val l1) (val m1) (val l2) (val m2) w' ho (by rw [← e1, ← e2]; exact f1) (by rw [← e1', ← e2']; exact f2) hc (by rw [← e1]; exact x1) (by rw [← e2]; exact y1) (by rw [← e1']; exact x2) (by rw [← e2']; exact y2) t (by rw [← e1]; omega) (by rw [← e2]; omega) (by rw [← e1']; omega) (by rw [← e2']; omega) e3 e3'
    exact this))
  have HT := Lib.hid hT
  have H1 := Lib.hid h1
  have J1 := Lib.hid j1
  have H2 := Lib.hid h2
  have J2 := Lib.hid j2
  clear ol1 om1 ol2 om2 h1 j1 h2 j2 hT
  obtain ⟨RR, hRR⟩ : ∃ RR, cmpR (rchk s1 l1 m1) (rchk s2 l2 m2) (sgn (fr s1 l1 m1 - fr s2 l2 m2)) = RR := ⟨_, rfl⟩
  rw [hRR] at CW ⊢
  clear hRR
  generalize l1.length = n1 at *
  generalize m1.length = d1 at *
  generalize l2.length = n2 at *
  generalize m2.length = d2 at *
  go_enter Tryz.func20, Tryz.ntmps20
  go_wp2_with (with_reducible refine G.any_mark _ ?_; (try generalize Array.size (World.heap (G.w _)) = bk); (try dsimp only [List.set_cons_zero, List.set_cons_succ]); (try clear g); intro g)
  refine (CW.out _ _ _ (G.blk1 g) ⟨(g.cell0 0).trans rfl, (g.cell0 1).trans rfl, (g.cell0 2).trans rfl⟩ (G.sl g (by simp) H1.out) (G.sl g (by simp) J1.out) ⟨(g.cell0 3).trans rfl, (g.cell0 4).trans rfl, (g.cell0 5).trans rfl⟩ (G.sl g (by simp) H2.out) (G.sl g (by simp) J2.out) (G.tab g HT.out)).mono ?_
  rintro e w1 ⟨rfl, hch, hcb⟩
  obtain ⟨g1, rfl⟩ := G.mut1 g (cs' := [.int .i64 RR.1]) hch hcb
  clear hch hcb
  (try clear g)
  revert g1
  intro g
  go_wp2_with (with_reducible refine G.any_mark _ ?_; (try generalize Array.size (World.heap (G.w _)) = bk); (try dsimp only [List.set_cons_zero, List.set_cons_succ]); (try clear g); intro g)
  refine bodyPost_ret (v := .tuple #[.int .i64 RR.1, .int .i64 RR.2]) (by simp [results, Tryz.results20, go_sem]) rfl ?_
  exact ⟨rfl, G.below _⟩
end Go.Proofs.YtjdnpkicdmapnaaGreatDoor
namespace Go.Proofs.YtjdnpkicdmapnaaGreatDoor
open Go.RowKit GW NL
theorem two_limbs64 (n : Nat) (h : n < 18446744073709551616) : val [n % 4294967296, n / 4294967296] = n ∧ Ok [n % 4294967296, n / 4294967296] := by
  refine ⟨by simp [val]; omega, ?_⟩
  intro x hx
  simp at hx
  omega
theorem size_pos (n : Nat) (h1 : n < 9223372036854775808) (w : World) : Calls Tryz.prog 76 #[.int .i64 n] w (RNat n w) := by
  refine calls_b fun g => ?_
  obtain ⟨hv, hk⟩ := two_limbs64 n (by omega)
  have HV := Lib.hid hv
  have e1 : (((n % 4294967296 : Nat)) : Int) = (n : Int) % 4294967296 := by omega
  have e2 : (((n / 4294967296 : Nat)) : Int) = (n : Int) / 4294967296 := by omega
  have E1 := Lib.hid e1
  have E2 := Lib.hid e2
  clear hv e1 e2
  go_enter Tryz.func76, Tryz.ntmps76
  go_wp2_with (with_reducible refine G.any_mark _ ?_; (try generalize Array.size (World.heap (G.w _)) = bk); (try dsimp only [List.set_cons_zero, List.set_cons_succ]); (try clear g); intro g)
  obtain ⟨g2, hg2⟩ := g.as (M' := [(bk, 29, u32s [n % 4294967296, n / 4294967296])]) (by simp only [u32s, List.map_cons, List.map_nil, E1.out, E2.out])
  rw [hg2]
  clear hg2 g
  revert g2
  intro g
  have hsl : SlW g.w (some ⟨bk, 0, none⟩) 2 [n % 4294967296, n / 4294967296] := (sl_blk (by simp) (by decide) hk).at (blkF_sub g.blk0)
  refine (ltrim_any _ _ [n % 4294967296, n / 4294967296] _ hsl).mono ?_
  rintro e w1 ⟨rfl, hb⟩
  obtain ⟨g1, rfl⟩ := G.call_ex _ hb
  clear hb hsl g
  revert g1
  intro g
  rw [HV.out]
  have hfin : (blkF bk (.cells (u32s [n % 4294967296, n / 4294967296]).toArray 29 (0, 0))).Sl (some ⟨bk, 0, none⟩) 2 (limbs n) := by
    have := sl_trim (sl_blk (b := bk) (T := 29) (fr := (0, 0)) (c := 2) (by simp) (by decide) hk)
    rwa [HV.out] at this
  go_wp2_with (with_reducible refine G.any_mark _ ?_; (try generalize Array.size (World.heap (G.w _)) = bk); (try dsimp only [List.set_cons_zero, List.set_cons_succ]); (try clear g); intro g)
  go_ret
  exact ⟨_, 2, _, rfl, hfin, g.give (List.mem_cons_self ..)⟩
theorem size_neg (n : Nat) (h0 : 0 < n) (h1 : n ≤ 9223372036854775808) (w : World) : Calls Tryz.prog 76 #[.int .i64 (-(n : Int))] w (RNat n w) := by
  refine calls_b fun g => ?_
  obtain ⟨a, ha⟩ : ∃ a : Int, -(n : Int) = a := ⟨_, rfl⟩
  rw [ha]
  have hneg : a < 0 := by omega
  obtain ⟨b, hb⟩ : ∃ b : Int, 18446744073709551616 - (n : Int) = b := ⟨_, rfl⟩
  have w1 : IntKind.u64.wrap a = b := by show a % 18446744073709551616 = b; omega
  have w2 : IntKind.u64.wrap (-b) = (n : Int) := by show (-b) % 18446744073709551616 = (n : Int); omega
  obtain ⟨hv, hk⟩ := two_limbs64 n (by omega)
  have HV := Lib.hid hv
  have e1 : (((n % 4294967296 : Nat)) : Int) = (n : Int) % 4294967296 := by omega
  have e2 : (((n / 4294967296 : Nat)) : Int) = (n : Int) / 4294967296 := by omega
  have E1 := Lib.hid e1
  have E2 := Lib.hid e2
  have hn64 : (n : Int) / 4294967296 < 4294967296 := by omega
  clear hv e1 e2 hb
  have h63 : -9223372036854775808 ≤ a := by omega
  go_enter Tryz.func76, Tryz.ntmps76
  go_wp2_with (with_reducible refine G.any_mark _ ?_; (try generalize Array.size (World.heap (G.w _)) = bk); (try dsimp only [List.set_cons_zero, List.set_cons_succ]); (try clear g); intro g)
  obtain ⟨g2, hg2⟩ := g.as (M' := [(bk, 29, u32s [n % 4294967296, n / 4294967296])]) (by simp only [u32s, List.map_cons, List.map_nil, E1.out, E2.out])
  rw [hg2]
  clear hg2 g
  revert g2
  intro g
  have hsl : SlW g.w (some ⟨bk, 0, none⟩) 2 [n % 4294967296, n / 4294967296] := (sl_blk (by simp) (by decide) hk).at (blkF_sub g.blk0)
  refine (ltrim_any _ _ [n % 4294967296, n / 4294967296] _ hsl).mono ?_
  rintro e w1 ⟨rfl, hb⟩
  obtain ⟨g1, rfl⟩ := G.call_ex _ hb
  clear hb hsl g
  revert g1
  intro g
  rw [HV.out]
  have hfin : (blkF bk (.cells (u32s [n % 4294967296, n / 4294967296]).toArray 29 (0, 0))).Sl (some ⟨bk, 0, none⟩) 2 (limbs n) := by
    have := sl_trim (sl_blk (b := bk) (T := 29) (fr := (0, 0)) (c := 2) (by simp) (by decide) hk)
    rwa [HV.out] at this
  go_wp2_with (with_reducible refine G.any_mark _ ?_; (try generalize Array.size (World.heap (G.w _)) = bk); (try dsimp only [List.set_cons_zero, List.set_cons_succ]); (try clear g); intro g)
  go_ret
  exact ⟨_, 2, _, rfl, hfin, g.give (List.mem_cons_self ..)⟩
theorem size_any (a : Int) (h1 : -9223372036854775808 ≤ a) (h2 : a < 9223372036854775808) (w : World) : Calls Tryz.prog 76 #[.int .i64 a] w (RNat a.natAbs w) := by
  by_cases h : a < 0
  · have := size_neg a.natAbs (by omega) (by omega) w
    rwa [show -((a.natAbs : Nat) : Int) = a by omega] at this
  · have := size_pos a.natAbs (by omega) w
    rwa [show ((a.natAbs : Nat) : Int) = a by omega] at this
/-- what Of answers -/
def ofX (a b : Int) : Bool × Nat × Nat × Int := if b = 0 then (false, 0, 0, 6) else outX (frac (decide (a < 0) != decide (b < 0)) a.natAbs b.natAbs)
set_option maxRecDepth 20000 in
set_option maxHeartbeats 4000000 in
theorem qOf_any (a b : Int) (h1 : -9223372036854775808 ≤ a) (h2 : a < 9223372036854775808) (h3 : -9223372036854775808 ≤ b) (h4 : b < 9223372036854775808) (w : World) (hT : Tab w) :
    Calls Tryz.prog 32 #[.int .i64 a, .int .i64 b] w (RPE (ofX a b) w) := by
  by_cases hb0 : b = 0
  · subst hb0
    refine calls_b fun g => ?_
    go_enter Tryz.func32, Tryz.ntmps32
    go_wp2_with (with_reducible refine G.any_mark _ ?_; (try generalize Array.size (World.heap (G.w _)) = bk); (try dsimp only [List.set_cons_zero, List.set_cons_succ]); (try clear g); intro g)
    refine bodyPost_ret (v := .tuple #[.agg #[.bool false, .slice none 0 0, .slice none 0 0], .int .i64 6]) (by simp [results, Tryz.results32, go_sem]) rfl ?_
    exact rpe_err _ _
  · have hd0 : b.natAbs ≠ 0 := by omega
    have hla : (limbs a.natAbs).length ≤ 2 := (limbs_len _ 2).2 (by rw [pow32]; omega)
    have hlb : (limbs b.natAbs).length ≤ 2 := (limbs_len _ 2).2 (by rw [pow32]; omega)
    unfold ofX
    rw [if_neg hb0]
    refine calls_n fun g => ?_
    have CSA := Lib.hid (fun w => size_any a h1 h2 w)
    have CSB := Lib.hid (fun w => size_any b h3 h4 w)
    have hbz : (b == 0) = false := by rw [beq_eq_false_iff_ne]; exact hb0
    have HT := Lib.hid hT
    generalize a.natAbs = na at *
    generalize b.natAbs = nb at *
    obtain ⟨sg, hsg⟩ : ∃ sg, (decide (a < 0) != decide (b < 0)) = sg := ⟨_, rfl⟩
    rw [hsg]
    have hsg2 : (!(decide (a < 0) == decide (b < 0))) = sg := hsg
    clear hsg
    have CL := Lib.hid (fun F A c B k w hF h1 h2 hT => low_rat F sg A B c k na nb w hF h1 h2 hT (by omega) (by omega) hd0)
    generalize frac sg na nb = x at *
    have CR := Lib.hid (fun A B c k w h1 h2 => result_any (rneg x) A B c k (rn x) x.den w h1 h2)
    unfold outX
    generalize outP (rneg x) (rn x) x.den = RR at *
    clear h1 h2 h3 h4 hla hlb hd0 hb0 hT
    go_enter Tryz.func32, Tryz.ntmps32
    go_wp2_with (with_reducible refine G.any_mark _ ?_; (try generalize Array.size (World.heap (G.w _)) = bk); (try dsimp only [List.set_cons_zero, List.set_cons_succ]); (try clear g); intro g)
    refine (CSA.out _).mono ?_
    rintro e w1 ⟨X1, x1, P1, rfl, hx1, hn1⟩
    have ho1 := New.over hn1 nilF (G.chg _).size
    obtain ⟨g1, rfl⟩ := G.new_ex _ hn1
    clear hn1
    (try clear g)
    revert g1
    intro g
    go_wp2_with (with_reducible refine G.any_mark _ ?_; (try generalize Array.size (World.heap (G.w _)) = bk); (try dsimp only [List.set_cons_zero, List.set_cons_succ]); (try clear g); intro g)
    refine (CSB.out _).mono ?_
    rintro e w1 ⟨X2, x2, P2, rfl, hx2, hn2⟩
    have ho2 := New.over hn2 nilF (G.chg _).size
    obtain ⟨g1, rfl⟩ := G.new_ex _ hn2
    clear hn2
    (try clear g)
    revert g1
    intro g
    go_wp2_with (with_reducible refine G.any_mark _ ?_; (try generalize Array.size (World.heap (G.w _)) = bk); (try dsimp only [List.set_cons_zero, List.set_cons_succ]); (try clear g); intro g)
    refine (CL.out (g.fr nilF) X1 x1 X2 x2 _ (g.fr_sub (by simp)) (g.fr_sl (by simp) ho1 hx1) (g.fr_sl (by simp) ho2 hx2) (G.tab g HT.out)).mono ?_
    rintro e w1 ⟨Y1, y1, Q1, Y2, y2, Q2, rfl, hy1, hy2, hn1, hn2⟩
    obtain ⟨g1, rfl, hov1, hov2⟩ := G.new3_ex g hn1 hn2
    clear hn1 hn2
    (try clear g)
    revert g1
    intro g
    go_wp2_with (with_reducible refine G.any_mark _ ?_; (try generalize Array.size (World.heap (G.w _)) = bk); (try dsimp only [List.set_cons_zero, List.set_cons_succ]); (try clear g); intro g)
    refine (CR.out _ _ _ _ _ (G.sl g (by simp) hy1) (G.sl g (by simp) hy2)).mono ?_
    rintro e w1 ⟨Z1, z1, R1, Z2, z2, R2, rfl, hz1, hz2, hn1, hn2⟩
    have ho1 := fun k o hk => Nat.le_trans (G.chg _).size (hn1.new k o hk)
    have ho2 := fun k o hk => Nat.le_trans (G.chg _).size (hn2.new k o hk)
    obtain ⟨g1, rfl⟩ := G.new2_ex _ hn1 hn2
    clear hn1 hn2
    (try clear g)
    revert g1
    intro g
    go_wp2_with (with_reducible refine G.any_mark _ ?_; (try generalize Array.size (World.heap (G.w _)) = bk); (try dsimp only [List.set_cons_zero, List.set_cons_succ]); (try clear g); intro g)
    refine bodyPost_ret (v := .tuple #[.agg #[.bool RR.1, .slice Z1 (limbs RR.2.1).length z1, .slice Z2 (limbs RR.2.2.1).length z2], .int .i64 RR.2.2.2]) (by simp [results, Tryz.results32, go_sem]) rfl ?_
    exact ⟨Z1, z1, R1, Z2, z2, R2, rfl, hz1, hz2, G.pass _ (by simp) ho1, G.pass _ (by simp) ho2⟩
end Go.Proofs.YtjdnpkicdmapnaaGreatDoor
namespace Go.Proofs.YtjdnpkicdmapnaaGreatDoor
open Go.RowKit GW NL
/-- what Make answers -/
def makX (s : Bool) (l m : List Nat) : Bool × Nat × Nat × Int := if chk l ≠ 0 then (false, 0, 0, chk l) else if chk m ≠ 0 then (false, 0, 0, chk m) else if val m = 0 then (false, 0, 0, 6) else outX (frac s (val l) (val m))
end Go.Proofs.YtjdnpkicdmapnaaGreatDoor
