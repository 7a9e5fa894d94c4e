/- Plain facts and contracts of functions of the program, out of walks. Their conditions stand ahead of each. -/
import Derived.Test.YtodigegjngnknaaDe20
import Derived.Test.YtodigegjngnknaaDe27
import Derived.Test.YtodigegjngnknaaDe28
import Derived.Below
import Derived.BigQuiet
import Derived.Deep.Draws
import Derived.Deep.LoopGhost
import Derived.Deep.QuietTactic
import Derived.Deep.RegionHeld3
import Derived.Defers
import Derived.Laws.BytesString
import Derived.Laws.Cells
import Derived.Laws.CopyOwn
import Derived.Laws.NewBlocks
import Derived.Laws.OwnMore
import Derived.Laws.Pointers
import Derived.Laws.Rows
import Derived.Lib.BitFns
import Derived.Lib.Hide
import Derived.Lib.ItoaNum
import Derived.LoopIn
import Derived.LoopNIn
import Derived.Maps.AppendAt
import Derived.OrdersIn
import Derived.OwnWalk
import Derived.OwnWalkIn
import Derived.RangeFuncBound
import Derived.RangeFuncBox
import Derived.RangeFuncCalls
import Derived.RangeFuncLeaves
import Derived.RangeFuncNested
import Derived.RowKit3
import Derived.Shelf.Abstract
import Derived.Shelf.RegionOpen
import Derived.StillTactics
import Derived.StillTailTactics
import Derived.TacticsInMore
import Derived.Test.YtodigegjngnknaaProg
import Derived.WalkKit
import Derived.WalkLawsBesides
import Derived.WalkMore
import Derived.WalkSpells
set_option linter.unusedVariables false
set_option linter.unusedSimpArgs false
set_option exponentiation.threshold 10000
namespace Go.Proofs.Ytodigegjngnknaa
open Go.RowKit GW NL
theorem Mul_ok (A1 A2 : Option Addr) (c1 c2 a b : Nat) (w : World) (h1 : SlW w A1 c1 (limbs a)) (h2 : SlW w A2 c2 (limbs b)) (ha : a < 2 ^ 8192) (hb : b < 2 ^ 8192) (hab : a * b < 2 ^ 8192) :
    Calls Try.prog 50 #[.slice A1 (limbs a).length c1, .slice A2 (limbs b).length c2] w (RNE (a * b, 0) w) := by
  have l1 : (limbs a).length ≤ 256 := (limbs_len a 256).2 (by rw [pow32]; exact ha)
  have l2 : (limbs b).length ≤ 256 := (limbs_len b 256).2 (by rw [pow32]; exact hb)
  have := Mul_any A1 A2 c1 c2 (limbs a) (limbs b) w h1 h2 (by omega) (by omega)
  rw [val_limbs, val_limbs] at this
  have hx : chk2 (limbs a) (limbs b) = 0 := by unfold chk2; rw [chk_limbs ha, chk_limbs hb]; rfl
  rw [hx] at this
  unfold outN at this
  rwa [if_neg (by simp), if_pos hab] at this
theorem Add_ok (A1 A2 : Option Addr) (c1 c2 a b : Nat) (w : World) (h1 : SlW w A1 c1 (limbs a)) (h2 : SlW w A2 c2 (limbs b)) (ha : a < 2 ^ 8192) (hb : b < 2 ^ 8192) (hab : a + b < 2 ^ 8192) :
    Calls Try.prog 45 #[.slice A1 (limbs a).length c1, .slice A2 (limbs b).length c2] w (RNE (a + b, 0) w) := by
  have l1 : (limbs a).length ≤ 256 := (limbs_len a 256).2 (by rw [pow32]; exact ha)
  have l2 : (limbs b).length ≤ 256 := (limbs_len b 256).2 (by rw [pow32]; exact hb)
  have := Add_any A1 A2 c1 c2 (limbs a) (limbs b) w h1 h2 (by omega) (by omega)
  rw [val_limbs, val_limbs] at this
  have hx : chk2 (limbs a) (limbs b) = 0 := by unfold chk2; rw [chk_limbs ha, chk_limbs hb]; rfl
  rw [hx] at this
  unfold outN at this
  rwa [if_neg (by simp), if_pos hab] at this
/-- the limbs that valid leaves -/
def cut (l : List Nat) (n : Nat) : Nat := val (l.take n)
end Go.Proofs.Ytodigegjngnknaa
namespace Go.Proofs.Ytodigegjngnknaa
open Go.RowKit GW NL
theorem p8192 {n k : Nat} (h : n < 2 ^ k) (hk : k ≤ 8192) : n < 2 ^ 8192 := Nat.lt_of_lt_of_le h (Nat.pow_le_pow_right (by decide) hk)
theorem sq_lt2 {n m k j : Nat} (h1 : n < 2 ^ k) (h2 : m < 2 ^ j) : n * m < 2 ^ (k + j) := by
  rw [Nat.pow_add]
  exact Nat.mul_lt_mul_of_lt_of_lt h1 h2
set_option maxRecDepth 20000 in
theorem dsq_any (x : Int) (n : Nat) (hn : x.natAbs = n) (hb : n < 2 ^ 62) (w : World) :
    Calls Try.prog 46 #[.int .i64 x] w (RLim (limbs (n * n)) w) := by
  refine calls_b fun g => ?_
  have C1 := Lib.hid (fun w => Of_pos n (by omega) w)
  have hn2 : n * n < 2 ^ 8192 := p8192 (sq_lt2 hb hb) (by decide)
  have C2 := Lib.hid (fun A1 A2 c1 c2 w h1 h2 => Mul_ok A1 A2 c1 c2 n n w h1 h2 (p8192 hb (by decide)) (p8192 hb (by decide)) hn2)
  unfold RNE at C1 C2
  dsimp only at C1 C2
  have w1 : IntKind.i64.wrap (-x) = -x := by rw [IntKind.wrap_i64]; omega
  have hx : (0 ≤ x ∧ x = (n : Int)) ∨ (x < 0 ∧ -x = (n : Int)) := by omega
  unfold RLim
  generalize hl1 : (limbs n).length = ln at *
  generalize hl2 : (limbs (n * n)).length = lnn at *
  clear hl1 hl2 hn hb hn2
  rcases hx with ⟨h0, rfl⟩ | ⟨h0, h1⟩
  · have hm : ¬ ((n : Int) < -(n : Int)) := by omega
    have hm2 : (-(n : Int)) ≤ (n : Int) := by omega
    have hm3 : max (n : Int) (-(n : Int)) = (n : Int) := by omega
    go_enter Try.func46, Try.ntmps46
    go_wp2_with (with_reducible refine G.any_mark _ ?_; (try generalize Array.size (World.heap (G.w _)) = bk); (try dsimp only [List.set_cons_zero, List.set_cons_succ]); (try clear g); intro g)
    refine (C1.out _).mono ?_
    rintro e w1 ⟨Aa, ca, Fa, rfl, hsa, hn⟩
    (try dsimp only at hsa)
    have hnna := fun k o hk => Nat.le_trans g.chg.size (hn.new k o hk)
    obtain ⟨g1, rfl⟩ := G.new_ex _ hn
    clear hn
    (try clear g)
    revert g1
    intro g
    go_wp2_with (with_reducible refine G.any_mark _ ?_; (try generalize Array.size (World.heap (G.w _)) = bk); (try dsimp only [List.set_cons_zero, List.set_cons_succ]); (try clear g); intro g)
    refine (C2.out _ _ _ _ _ (G.sl g (by simp) hsa) (G.sl g (by simp) hsa)).mono ?_
    rintro e w1 ⟨Ab, cb, Fb, rfl, hsb, hn⟩
    (try dsimp only at hsb)
    have hnnb := fun k o hk => Nat.le_trans g.chg.size (hn.new k o hk)
    obtain ⟨g1, rfl⟩ := G.new_ex _ hn
    clear hn
    (try clear g)
    revert g1
    intro g
    go_wp2_with (with_reducible refine G.any_mark _ ?_; (try generalize Array.size (World.heap (G.w _)) = bk); (try dsimp only [List.set_cons_zero, List.set_cons_succ]); (try clear g); intro g)
    go_ret
    exact ⟨_, _, _, rfl, hsb, G.pass _ (by simp) hnnb⟩
  · have hm3 : max x (n : Int) = (n : Int) := by omega
    rw [h1] at w1
    clear h0
    go_enter Try.func46, Try.ntmps46
    go_wp2_with (with_reducible refine G.any_mark _ ?_; (try generalize Array.size (World.heap (G.w _)) = bk); (try dsimp only [List.set_cons_zero, List.set_cons_succ]); (try clear g); intro g)
    refine (C1.out _).mono ?_
    rintro e w1 ⟨Aa, ca, Fa, rfl, hsa, hn⟩
    (try dsimp only at hsa)
    have hnna := fun k o hk => Nat.le_trans g.chg.size (hn.new k o hk)
    obtain ⟨g1, rfl⟩ := G.new_ex _ hn
    clear hn
    (try clear g)
    revert g1
    intro g
    go_wp2_with (with_reducible refine G.any_mark _ ?_; (try generalize Array.size (World.heap (G.w _)) = bk); (try dsimp only [List.set_cons_zero, List.set_cons_succ]); (try clear g); intro g)
    refine (C2.out _ _ _ _ _ (G.sl g (by simp) hsa) (G.sl g (by simp) hsa)).mono ?_
    rintro e w1 ⟨Ab, cb, Fb, rfl, hsb, hn⟩
    (try dsimp only at hsb)
    have hnnb := fun k o hk => Nat.le_trans g.chg.size (hn.new k o hk)
    obtain ⟨g1, rfl⟩ := G.new_ex _ hn
    clear hn
    (try clear g)
    revert g1
    intro g
    go_wp2_with (with_reducible refine G.any_mark _ ?_; (try generalize Array.size (World.heap (G.w _)) = bk); (try dsimp only [List.set_cons_zero, List.set_cons_succ]); (try clear g); intro g)
    go_ret
    exact ⟨_, _, _, rfl, hsb, G.pass _ (by simp) hnnb⟩
/-- what Direction's closure says of t -/
def Yes (D L : Nat) (t : Int) : Prop := (2 * t - 1).natAbs * (2 * t - 1).natAbs * D ≤ L
instance (D L : Nat) (t : Int) : Decidable (Yes D L t) := inferInstanceAs (Decidable (_ ≤ _))
set_option maxRecDepth 20000 in
theorem dir1_any (b1 b2 : Nat) (A1 A2 : Option Addr) (c1 c2 D L : Nat) (t : Int) (ht : 0 ≤ t) (ht2 : t ≤ 1073741824) (w : World) (hb1 : w.cell? ⟨b1, 0, none⟩ = some (.slice A1 (limbs D).length c1)) (hb2 : w.cell? ⟨b2, 0, none⟩ = some (.slice A2 (limbs L).length c2)) (h1 : SlW w A1 c1 (limbs D)) (h2 : SlW w A2 c2 (limbs L)) (hD : D < 2 ^ 200) (hL : L < 2 ^ 400) :
    Calls Try.prog 49 #[.int .i64 t, .pointer (some ⟨b1, 0, none⟩), .pointer (some ⟨b2, 0, none⟩)] w fun e w' => e = .returned (.bool (decide (Yes D L t))) ∧ Below w.heap.size w w' := by
  refine calls_b fun g => ?_
  obtain ⟨n, hn⟩ : ∃ n, (2 * t - 1).natAbs = n := ⟨_, rfl⟩
  have n1 : n < 2 ^ 32 := by omega
  have n2 : n * n < 2 ^ 64 := sq_lt2 n1 n1
  have n3 : n * n * D < 2 ^ 264 := sq_lt2 n2 hD
  have w1 : IntKind.i64.wrap (2 * t) = 2 * t := by rw [IntKind.wrap_i64]; omega
  have w2 : IntKind.i64.wrap (2 * t - 1) = 2 * t - 1 := by rw [IntKind.wrap_i64]; omega
  have C1 := Lib.hid (fun w => dsq_any (2 * t - 1) n hn (by omega) w)
  have C2 := Lib.hid (fun A c w h h' => Mul_ok A A1 c c1 (n * n) D w h h' (p8192 n2 (by decide)) (p8192 hD (by decide)) (p8192 n3 (by decide)))
  have C3 := Lib.hid (fun A c w h h' => Cmp_any A A2 c c2 (limbs (n * n * D)) (limbs L) w h h')
  have e3 : outC (chk2 (limbs (n * n * D)) (limbs L)) (ord (val (limbs (n * n * D))) (val (limbs L))) = (ord (n * n * D) L, 0) := by
    unfold chk2
    rw [chk_limbs (p8192 n3 (by decide)), chk_limbs (p8192 hL (by decide)), val_limbs, val_limbs]
    rfl
  rw [e3] at C3
  have hyes : (decide (Yes D L t) = true ∧ ord (n * n * D) L ≤ 0) ∨ (decide (Yes D L t) = false ∧ ¬ ord (n * n * D) L ≤ 0) := by
    rw [decide_eq_true_eq, decide_eq_false_iff_not]
    unfold Yes ord
    rw [hn]
    rcases Nat.lt_trichotomy (n * n * D) L with h | h | h
    · left; exact ⟨by omega, by rw [if_pos h]; decide⟩
    · left; exact ⟨by omega, by rw [if_neg (by omega), if_neg (by omega)]; decide⟩
    · right; exact ⟨by omega, by rw [if_neg (by omega), if_pos h]; decide⟩
  unfold RLim at C1
  unfold RNE at C2
  dsimp only at C2 C3
  have HB1 := Lib.hid hb1
  have HB2 := Lib.hid hb2
  have H1 := Lib.hid h1
  have H2 := Lib.hid h2
  have HY := Lib.hid hyes
  generalize hl1 : (limbs D).length = lD at *
  generalize hl2 : (limbs L).length = lL at *
  generalize hl3 : (limbs (n * n)).length = lq at *
  generalize hl4 : (limbs (n * n * D)).length = lp at *
  obtain ⟨o, ho⟩ : ∃ o, ord (n * n * D) L = o := ⟨_, rfl⟩
  rw [ho] at C3 HY
  generalize decide (Yes D L t) = Y at *
  clear hb1 hb2 h1 h2 hyes hl1 hl2 hl3 hl4 ho e3 n1 n2 n3 hn hD hL ht ht2
  obtain ⟨u2, hu2⟩ : ∃ u2, 2 * t = u2 := ⟨_, rfl⟩
  obtain ⟨u, hu⟩ : ∃ u, u2 - 1 = u := ⟨_, rfl⟩
  have v1 : IntKind.i64.wrap (2 * t) = u2 := by rw [w1, hu2]
  have v2 : IntKind.i64.wrap (u2 - 1) = u := by rw [← hu2, w2, hu2, hu]
  rw [hu2, hu] at C1
  clear w1 w2 hu2 hu
  go_enter Try.func49, Try.ntmps49
  go_wp2_with (with_reducible refine G.any_mark _ ?_; (try generalize Array.size (World.heap (G.w _)) = bk); (try dsimp only [List.set_cons_zero, List.set_cons_succ]); (try clear g); intro g)
  go_region_held3 (fun W => W.cell? ⟨b1, 0, none⟩ = some (.slice A1 lD c1)) (first | exact G.oldc _ HB1.out | (simp only [G.drew_eq, G.drewN_eq]; exact G.oldc _ HB1.out) | (go_simp; done)) (first
    | (go_at_call 46; (with_reducible refine (C1.out _).mono ?_); rintro e w1 ⟨Aa, ca, Fa, rfl, hsa, hn⟩; obtain ⟨g1, rfl⟩ := G.new_ex _ hn; clear hn; (try clear g); revert g1; intro g)
    | (go_at_call 50; (with_reducible refine (C2.out _ _ _ ?_ ?_).mono ?_); (· exact G.sl _ (by simp) hsa); (· exact G.sl _ (by simp) H1.out); rintro e w1 ⟨Ab, cb, Fb, rfl, hsb, hn⟩; obtain ⟨g1, rfl⟩ := G.new_ex _ hn; clear hn; (try clear g); revert g1; intro g))
  all_goals (first | ((try simp only [G.drew_eq, G.drewN_eq]); (refine G.any_mark _ ?_; (try clear g); intro g)) | skip)
  have e2 := G.oldc g HB2.out
  go_wp2_with (with_reducible refine G.any_mark _ ?_; (try generalize Array.size (World.heap (G.w _)) = bk); (try dsimp only [List.set_cons_zero, List.set_cons_succ]); (try clear g); intro g)
  refine (C3.out _ _ _ (G.sl g (by simp) hsb) (G.sl g (by simp) H2.out)).mono ?_
  rintro e w1 ⟨rfl, hb⟩
  obtain ⟨g1, rfl⟩ := G.call_ex _ hb
  clear hb
  (try clear g)
  revert g1
  intro g
  rcases HY.out with ⟨hY, ho⟩ | ⟨hY, ho⟩
  · subst hY
    clear HY
    go_wp2_with (with_reducible refine G.any_mark _ ?_; (try generalize Array.size (World.heap (G.w _)) = bk); (try dsimp only [List.set_cons_zero, List.set_cons_succ]); (try clear g); intro g)
    go_ret
    exact ⟨rfl, G.below _⟩
  · subst hY
    clear HY
    have HO := Lib.hid ho
    go_wp2_with (with_reducible refine G.any_mark _ ?_; (try generalize Array.size (World.heap (G.w _)) = bk); (try dsimp only [List.set_cons_zero, List.set_cons_succ]); (try clear g); intro g)
    go_ret
    refine ⟨?_, G.below _⟩
    show Ending.returned (.bool (decide (o ≤ 0))) = _
    rw [decide_eq_false (show ¬ o ≤ 0 by have := HO.out; omega)]
theorem Yes.down {D L : Nat} {t s : Int} (h : Yes D L t) (hs : 1 ≤ s) (hst : s ≤ t) : Yes D L s := by
  unfold Yes at h ⊢
  have h1 : (2 * s - 1).natAbs ≤ (2 * t - 1).natAbs := by omega
  have h2 := Nat.mul_le_mul h1 h1
  exact Nat.le_trans (Nat.mul_le_mul_right D h2) h
set_option maxRecDepth 20000 in
theorem last_any (b1 b2 : Nat) (A1 A2 : Option Addr) (c1 c2 D L : Nat) (w : World) (hb1 : w.cell? ⟨b1, 0, none⟩ = some (.slice A1 (limbs D).length c1)) (hb2 : w.cell? ⟨b2, 0, none⟩ = some (.slice A2 (limbs L).length c2)) (h1 : SlW w A1 c1 (limbs D)) (h2 : SlW w A2 c2 (limbs L)) (hD : D < 2 ^ 200) (hL : L < 2 ^ 400) :
    Calls Try.prog 48 #[.int .i64 0, .int .i64 1073741824, .func (.func 49) #[] #[.pointer (some ⟨b1, 0, none⟩), .pointer (some ⟨b2, 0, none⟩)]] w fun e w' => (∃ u : Int, e = .returned (.int .i64 u) ∧ 0 ≤ u ∧ u ≤ 1073741824 ∧ (u = 0 ∨ Yes D L u) ∧ (u = 1073741824 ∨ ¬ Yes D L (u + 1))) ∧ Below w.heap.size w w' := by
  refine calls_b fun g => ?_
  have C1 : Hid (∀ (t : Int), 0 ≤ t → t ≤ 1073741824 → ∀ g : G w [] [] [heapOf w], Calls Try.prog 49 #[.int .i64 t, .pointer (some ⟨b1, 0, none⟩), .pointer (some ⟨b2, 0, none⟩)] g.w fun e w' => e = .returned (.bool (decide (Yes D L t))) ∧ Below g.w.heap.size g.w w') :=
    Lib.hid (fun t ht ht2 g => dir1_any b1 b2 A1 A2 c1 c2 D L t ht ht2 g.w (G.oldc g hb1) (G.oldc g hb2) (G.sl g (by simp) h1) (G.sl g (by simp) h2) hD hL)
  clear hb1 hb2 h1 h2 hD hL
  go_enter Try.func48, Try.ntmps48
  go_wp2_with (with_reducible refine G.any_mark _ ?_; (try generalize Array.size (World.heap (G.w _)) = bk); (try dsimp only [List.set_cons_zero, List.set_cons_succ]); (try clear g); intro g)
  go_loopw [0, 1] (fun x y wr => ∃ lo hi : Int, x = .int .i64 lo ∧ y = .int .i64 hi ∧ 0 ≤ lo ∧ lo ≤ hi ∧ hi ≤ 1073741824 ∧ (lo = 0 ∨ Yes D L lo) ∧ (hi = 1073741824 ∨ ¬ Yes D L (hi + 1)) ∧ ∃ g : G w [] [] [heapOf w], wr = g.w) (fun x y _ => (intOf y - intOf x).toNat)
  case atStart => exact ⟨0, 1073741824, rfl, rfl, by omega, by omega, by omega, .inl rfl, .inl rfl, g, rfl⟩
  case round =>
    clear g
    obtain ⟨lo, hi, rfl, rfl, h0, hlh, hh, hl, hr, g, rfl⟩ := hrel
    by_cases hlt : lo < hi
    · obtain ⟨m, hm⟩ : ∃ m, lo + (hi - lo + 1) / 2 = m := ⟨_, rfl⟩
      have w1 : IntKind.i64.wrap (hi - lo) = hi - lo := by rw [IntKind.wrap_i64]; omega
      have w2 : IntKind.i64.wrap (hi - lo + 1) = hi - lo + 1 := by rw [IntKind.wrap_i64]; omega
      have w3 : Int.tdiv (hi - lo + 1) 2 = (hi - lo + 1) / 2 := Int.tdiv_eq_ediv_of_nonneg (by omega)
      have w3b : IntKind.i64.wrap ((hi - lo + 1) / 2) = (hi - lo + 1) / 2 := by rw [IntKind.wrap_i64]; omega
      have w4 : IntKind.i64.wrap (lo + (hi - lo + 1) / 2) = m := by rw [IntKind.wrap_i64]; omega
      have w5 : IntKind.i64.wrap (m - 1) = m - 1 := by rw [IntKind.wrap_i64]; omega
      have m1 : lo < m := by omega
      have m2 : m ≤ hi := by omega
      have C := Lib.hid (C1.out m (by omega) (by omega))
      have HH := Lib.hid (And.intro h0 (And.intro hlh (And.intro hh (And.intro hl (And.intro hr (And.intro m1 m2))))))
      clear h0 hlh hh hl hr m1 m2 hm
      rcases Decidable.em (Yes D L m) with hy | hy
      · rw [decide_eq_true hy] at C
        have HYm := Lib.hid hy
        clear hy
        go_wp2_with (with_reducible refine G.any_mark _ ?_; (try generalize Array.size (World.heap (G.w _)) = bk); (try dsimp only [List.set_cons_zero, List.set_cons_succ]); (try clear g); intro g)
        refine (C.out _).mono ?_
        rintro e w1 ⟨rfl, hb⟩
        obtain ⟨g1, rfl⟩ := G.call_ex _ hb
        clear hb
        (try clear g)
        revert g1
        intro g
        go_wp2_with (with_reducible refine G.any_mark _ ?_; (try generalize Array.size (World.heap (G.w _)) = bk); (try dsimp only [List.set_cons_zero, List.set_cons_succ]); (try clear g); intro g)
        obtain ⟨q0, q1, q2, q3, q4, q5, q6⟩ := HH.out
        exact ⟨⟨m, hi, rfl, rfl, by omega, by omega, by omega, .inr HYm.out, q4, g, rfl⟩, by simp only [intOf]; omega⟩
      · rw [decide_eq_false hy] at C
        have HYm := Lib.hid hy
        clear hy
        go_wp2_with (with_reducible refine G.any_mark _ ?_; (try generalize Array.size (World.heap (G.w _)) = bk); (try dsimp only [List.set_cons_zero, List.set_cons_succ]); (try clear g); intro g)
        refine (C.out _).mono ?_
        rintro e w1 ⟨rfl, hb⟩
        obtain ⟨g1, rfl⟩ := G.call_ex _ hb
        clear hb
        (try clear g)
        revert g1
        intro g
        go_wp2_with (with_reducible refine G.any_mark _ ?_; (try generalize Array.size (World.heap (G.w _)) = bk); (try dsimp only [List.set_cons_zero, List.set_cons_succ]); (try clear g); intro g)
        obtain ⟨q0, q1, q2, q3, q4, q5, q6⟩ := HH.out
        exact ⟨⟨lo, m - 1, rfl, rfl, by omega, by omega, by omega, q3, .inr (by rw [show m - 1 + 1 = m by omega]; exact HYm.out), g, rfl⟩, by simp only [intOf]; omega⟩
    · have hle : lo = hi := by omega
      subst hle
      have HH := Lib.hid (And.intro h0 (And.intro hh (And.intro hl hr)))
      clear h0 hh hl hr hlh
      go_wp2_with (with_reducible refine G.any_mark _ ?_; (try generalize Array.size (World.heap (G.w _)) = bk); (try dsimp only [List.set_cons_zero, List.set_cons_succ]); (try clear g); intro g)
      go_ret
      exact ⟨⟨lo, rfl, HH.out.1, HH.out.2.1, HH.out.2.2.1, HH.out.2.2.2⟩, G.below _⟩
end Go.Proofs.Ytodigegjngnknaa
namespace Go.Proofs.Ytodigegjngnknaa
open Go.RowKit GW NL
/-- a literal slice of limbs -/
theorem G.lit0 {w0 : World} {X : List Nat} {M : List Blk} {I : List Frag} {b : Nat} {T : TypeId} {cs : List Value} (g : G w0 X ((b, T, cs) :: M) I) (v n : Nat) (h : cs = u32s (limbs v)) (hn : (limbs v).length = n) (h2 : n ≤ 1000) : SlW g.w (some ⟨b, 0, none⟩) n (limbs v) := by
  subst h
  exact (sl_blk (Nat.le_of_eq hn) (by omega) (ok_limbs v)).at (blkF_sub g.blk0)
theorem G.lit1 {w0 : World} {X : List Nat} {M : List Blk} {I : List Frag} {x0 : Blk} {b : Nat} {T : TypeId} {cs : List Value} (g : G w0 X (x0 :: (b, T, cs) :: M) I) (v n : Nat) (h : cs = u32s (limbs v)) (hn : (limbs v).length = n) (h2 : n ≤ 1000) : SlW g.w (some ⟨b, 0, none⟩) n (limbs v) := by
  subst h
  exact (sl_blk (Nat.le_of_eq hn) (by omega) (ok_limbs v)).at (blkF_sub g.blk1)
theorem lim1 {x : Nat} (h : x < 4294967296) (h0 : x ≠ 0) : limbs x = [x] := limbs_one h0 h
theorem lim2 {x y : Nat} (h : x < 4294967296) (hy : y < 4294967296) (h0 : y ≠ 0) : limbs (x + 4294967296 * y) = [x, y] := by
  have e : val [x, y] = x + 4294967296 * y := by simp [val]
  rw [← e]
  refine limbs_val (Ok.cons h (Ok.cons hy Ok.nil)) ?_
  intro k hk
  obtain rfl : k = 1 := by simp at hk; omega
  simpa using h0
theorem mul_lit (A B : Option Addr) (v1 v2 p n1 n2 n : Nat) (w : World) (h1 : SlW w A n1 (limbs v1)) (h2 : SlW w B n2 (limbs v2)) (e1 : (limbs v1).length = n1) (e2 : (limbs v2).length = n2) (e : (limbs p).length = n) (hp : v1 * v2 = p) (b1 : v1 < 2 ^ 8192) (b2 : v2 < 2 ^ 8192) (b3 : p < 2 ^ 8192) :
    Calls Try.prog 50 #[.slice A n1 n1, .slice B n2 n2] w fun e w' => ∃ A c F, e = .returned (.tuple #[.slice A n c, .int .i64 0]) ∧ F.Sl A c (limbs p) ∧ New w w' F := by
  have := Mul_ok A B n1 n2 v1 v2 w h1 h2 b1 b2 (by rw [hp]; exact b3)
  rw [hp, e1, e2] at this
  unfold RNE at this
  dsimp only at this
  rwa [e] at this
theorem div_lit (A B : Option Addr) (v1 v2 q r n1 n2 nq nr : Nat) (w : World) (h1 : SlW w A n1 (limbs v1)) (h2 : SlW w B n2 (limbs v2)) (e1 : (limbs v1).length = n1) (e2 : (limbs v2).length = n2) (eq : (limbs q).length = nq) (er : (limbs r).length = nr) (hq : v1 / v2 = q) (hr : v1 % v2 = r) (b1 : v1 < 2 ^ 8192) (b2 : v2 < 2 ^ 8192) (b0 : v2 ≠ 0) :
    Calls Try.prog 54 #[.slice A n1 n1, .slice B n2 n2] w fun e w' => ∃ A1 c1 F1 A2 c2 F2, e = .returned (.tuple #[.slice A1 nq c1, .slice A2 nr c2, .int .i64 0]) ∧ F1.Sl A1 c1 (limbs q) ∧ F2.Sl A2 c2 (limbs r) ∧ New w w' F1 ∧ New w w' F2 := by
  have := Div_ok A B n1 n2 v1 v2 w h1 h2 b1 b2 b0
  rw [hq, hr, e1, e2] at this
  unfold RNNE at this
  rwa [eq, er] at this
theorem small_lt {x : Nat} (h : x < 2 ^ 64) : x < 2 ^ 8192 := Nat.lt_trans h (Nat.pow_lt_pow_right (by decide) (by decide))
theorem digs_step' (n q r : Nat) (l : List Nat) (h : n = 10 * q + r) (hr : r < 10) (h0 : n ≠ 0) (hl : digs q = l) : digs n = r :: l := by
  rw [digs_pos h0, show n % 10 = r by omega, show n / 10 = q by omega, hl]
theorem dec_top : dec 4294967296 = [52, 50, 57, 52, 57, 54, 55, 50, 57, 54] := by
  have h : digs 4294967296 = [6, 9, 2, 7, 6, 9, 4, 9, 2, 4] := by
    refine digs_step' _ 429496729 6 _ (by omega) (by omega) (by omega) ?_
    refine digs_step' _ 42949672 9 _ (by omega) (by omega) (by omega) ?_
    refine digs_step' _ 4294967 2 _ (by omega) (by omega) (by omega) ?_
    refine digs_step' _ 429496 7 _ (by omega) (by omega) (by omega) ?_
    refine digs_step' _ 42949 6 _ (by omega) (by omega) (by omega) ?_
    refine digs_step' _ 4294 9 _ (by omega) (by omega) (by omega) ?_
    refine digs_step' _ 429 4 _ (by omega) (by omega) (by omega) ?_
    refine digs_step' _ 42 9 _ (by omega) (by omega) (by omega) ?_
    refine digs_step' _ 4 2 _ (by omega) (by omega) (by omega) ?_
    exact digs_step' _ 0 4 _ (by omega) (by omega) (by omega) digs_zero
  unfold dec
  rw [if_neg (by omega), h]
  rfl
end Go.Proofs.Ytodigegjngnknaa
namespace Go.Proofs.Ytodigegjngnknaa
open Go.RowKit GW NL
/-- a number without an error -/
def RV (v : Nat) (w : World) (e : Ending) (w' : World) : Prop := ∃ A c F, e = .returned (.tuple #[.slice A (limbs v).length c, .int .i64 0]) ∧ F.Sl A c (limbs v) ∧ New w w' F
/-- two numbers without an error -/
def RV2 (q r : Nat) (w : World) (e : Ending) (w' : World) : Prop := ∃ A1 c1 F1 A2 c2 F2, e = .returned (.tuple #[.slice A1 (limbs q).length c1, .slice A2 (limbs r).length c2, .int .i64 0]) ∧ F1.Sl A1 c1 (limbs q) ∧ F2.Sl A2 c2 (limbs r) ∧ New w w' F1 ∧ New w w' F2
theorem Mul_rv (a b p : Nat) (hp : a * b = p) (ha : a < 2 ^ 8192) (hb : b < 2 ^ 8192) (hpb : p < 2 ^ 8192) (A1 A2 : Option Addr) (c1 c2 : Nat) (w : World) (h1 : SlW w A1 c1 (limbs a)) (h2 : SlW w A2 c2 (limbs b)) :
    Calls Try.prog 50 #[.slice A1 (limbs a).length c1, .slice A2 (limbs b).length c2] w (RV p w) := by
  subst hp; exact Mul_ok A1 A2 c1 c2 a b w h1 h2 ha hb hpb
theorem Add_rv (a b p : Nat) (hp : a + b = p) (ha : a < 2 ^ 8192) (hb : b < 2 ^ 8192) (hpb : p < 2 ^ 8192) (A1 A2 : Option Addr) (c1 c2 : Nat) (w : World) (h1 : SlW w A1 c1 (limbs a)) (h2 : SlW w A2 c2 (limbs b)) :
    Calls Try.prog 45 #[.slice A1 (limbs a).length c1, .slice A2 (limbs b).length c2] w (RV p w) := by
  subst hp; exact Add_ok A1 A2 c1 c2 a b w h1 h2 ha hb hpb
theorem Div_rv (a b q r : Nat) (hq : a / b = q) (hr : a % b = r) (ha : a < 2 ^ 8192) (hb : b < 2 ^ 8192) (h0 : b ≠ 0) (A1 A2 : Option Addr) (c1 c2 : Nat) (w : World) (h1 : SlW w A1 c1 (limbs a)) (h2 : SlW w A2 c2 (limbs b)) :
    Calls Try.prog 54 #[.slice A1 (limbs a).length c1, .slice A2 (limbs b).length c2] w (RV2 q r w) := by
  subst hq hr; exact Div_ok A1 A2 c1 c2 a b w h1 h2 ha hb h0
theorem cut_lt {l : List Nat} (h : Ok l) (m : Nat) : cut l m < 2 ^ (32 * m) := by
  have h1 := val_lt (h.take m)
  have h2 : 4294967296 ^ (l.take m).length ≤ 4294967296 ^ m := Nat.pow_le_pow_right (by decide) (by rw [List.length_take]; omega)
  rw [pow32 m] at h2
  unfold cut
  omega
theorem pow_lt' {a k : Nat} (h : a < 2 ^ k) (hk : k ≤ 8192) : a < 2 ^ 8192 := Nat.lt_of_lt_of_le h (Nat.pow_le_pow_right (by decide) hk)
theorem mul_lt' {a b i j : Nat} (h1 : a < 2 ^ i) (h2 : b < 2 ^ j) : a * b < 2 ^ (i + j) := by
  rw [Nat.pow_add]
  exact Nat.mul_lt_mul_of_lt_of_le h1 (Nat.le_of_lt h2) (Nat.two_pow_pos j)
theorem len_ne {v : Nat} (h : v ≠ 0) : 0 < (limbs v).length := by
  rcases Nat.eq_zero_or_pos (limbs v).length with h1 | h1
  · exact absurd (limbs_nil.1 (List.eq_nil_of_length_eq_zero h1)) h
  · exact h1
end Go.Proofs.Ytodigegjngnknaa
namespace Go.Proofs.Ytodigegjngnknaa
open Go.RowKit GW NL
theorem Cmp_ok (a b : Nat) (ha : a < 2 ^ 8192) (hb : b < 2 ^ 8192) (A1 A2 : Option Addr) (c1 c2 : Nat) (w : World) (h1 : SlW w A1 c1 (limbs a)) (h2 : SlW w A2 c2 (limbs b)) :
    Calls Try.prog 51 #[.slice A1 (limbs a).length c1, .slice A2 (limbs b).length c2] w fun e w' => e = .returned (.tuple #[.int .i64 (ord a b), .int .i64 0]) ∧ Below w.heap.size w w' := by
  have := Cmp_any A1 A2 c1 c2 (limbs a) (limbs b) w h1 h2
  have hx : chk2 (limbs a) (limbs b) = 0 := by unfold chk2; rw [chk_limbs ha, chk_limbs hb]; rfl
  rw [hx, val_limbs, val_limbs] at this
  unfold outC at this
  rwa [if_neg (by simp)] at this
theorem Div_zero_rv (a : Nat) (ha : a < 2 ^ 8192) (A1 A2 : Option Addr) (c1 c2 : Nat) (w : World) (h1 : SlW w A1 c1 (limbs a)) (h2 : SlW w A2 c2 []) :
    Calls Try.prog 54 #[.slice A1 (limbs a).length c1, .slice A2 0 c2] w fun e w' => ∃ A1 c1 F1 A2 c2 F2, e = .returned (.tuple #[.slice A1 0 c1, .slice A2 0 c2, .int .i64 6]) ∧ F1.Sl A1 c1 (limbs 0) ∧ F2.Sl A2 c2 (limbs 0) ∧ New w w' F1 ∧ New w w' F2 := by
  have hx : chk2 (limbs a) [] = 0 := by unfold chk2; rw [chk_limbs ha]; rfl
  have := Div_zero A1 A2 c1 c2 (limbs a) w h1 h2 hx
  unfold RNNE at this
  rwa [show (limbs 0).length = 0 by rw [limbs_zero]; rfl] at this
end Go.Proofs.Ytodigegjngnknaa
namespace Go.Proofs.Ytodigegjngnknaa
open Go.RowKit GW NL
theorem Shift_err (A : Option Addr) (c : Nat) (l : List Nat) (n : Int) (w : World) (h : SlW w A c l) (hx : chk l ≠ 0) :
    Calls Try.prog 47 #[.slice A l.length c, .int .i64 n] w (RNE (0, chk l) w) := by
  refine calls_b fun g => ?_
  have C1 := Lib.hid (fun w h => check_any A c l w h)
  have hx' : (chk l == 0) = false := by simpa using hx
  clear hx
  generalize chk l = r at *
  generalize l.length = k at *
  go_enter Try.func47, Try.ntmps47
  go_wp2_with (with_reducible refine G.any_mark _ ?_; (try generalize Array.size (World.heap (G.w _)) = bk); (try dsimp only [List.set_cons_zero, List.set_cons_succ]); (try clear g); intro g)
  refine (C1.out _ (G.sl g (by simp) h)).mono ?_
  rintro e w1 ⟨rfl, hb⟩
  obtain ⟨g1, rfl⟩ := G.call_ex _ hb
  clear hb
  (try clear g)
  revert g1
  intro g
  go_wp2_with (with_reducible refine G.any_mark _ ?_; (try generalize Array.size (World.heap (G.w _)) = bk); (try dsimp only [List.set_cons_zero, List.set_cons_succ]); (try clear g); intro g)
  go_ret2
  exact rne_err g r
theorem Shift_range (A : Option Addr) (c : Nat) (l : List Nat) (n : Int) (w : World) (h : SlW w A c l) (hx : chk l = 0) (hn : n < -10000 ∨ 10000 < n) :
    Calls Try.prog 47 #[.slice A l.length c, .int .i64 n] w (RNE (0, 2) w) := by
  refine calls_b fun g => ?_
  have C1 := Lib.hid (fun w h => check_any A c l w h)
  rw [hx] at C1
  clear hx
  generalize l.length = k at *
  rcases Decidable.em (n < -10000) with h1 | h1
  · clear hn
    have h1' : decide (n < -10000) = true := decide_eq_true h1
    clear h1
    go_enter Try.func47, Try.ntmps47
    go_wp2_with (with_reducible refine G.any_mark _ ?_; (try generalize Array.size (World.heap (G.w _)) = bk); (try dsimp only [List.set_cons_zero, List.set_cons_succ]); (try clear g); intro g)
    refine (C1.out _ (G.sl g (by simp) h)).mono ?_
    rintro e w1 ⟨rfl, hb⟩
    obtain ⟨g1, rfl⟩ := G.call_ex _ hb
    clear hb
    (try clear g)
    revert g1
    intro g
    go_wp2_with (with_reducible refine G.any_mark _ ?_; (try generalize Array.size (World.heap (G.w _)) = bk); (try dsimp only [List.set_cons_zero, List.set_cons_succ]); (try clear g); intro g)
    go_ret2
    exact rne_err g 2
  · have h2 : 10000 < n := by omega
    have h1' : decide (n < -10000) = false := decide_eq_false h1
    clear h1 hn
    go_enter Try.func47, Try.ntmps47
    go_wp2_with (with_reducible refine G.any_mark _ ?_; (try generalize Array.size (World.heap (G.w _)) = bk); (try dsimp only [List.set_cons_zero, List.set_cons_succ]); (try clear g); intro g)
    refine (C1.out _ (G.sl g (by simp) h)).mono ?_
    rintro e w1 ⟨rfl, hb⟩
    obtain ⟨g1, rfl⟩ := G.call_ex _ hb
    clear hb
    (try clear g)
    revert g1
    intro g
    go_wp2_with (with_reducible refine G.any_mark _ ?_; (try generalize Array.size (World.heap (G.w _)) = bk); (try dsimp only [List.set_cons_zero, List.set_cons_succ]); (try clear g); intro g)
    go_ret2
    exact rne_err g 2
theorem Shift_core (A : Option Addr) (c v : Nat) (n : Int) (R : Nat) (w : World) (h : SlW w A c (limbs v)) (hv : v < 2 ^ 8192) (hn1 : -10000 ≤ n) (hn2 : n ≤ 10000)
    (CS : ∀ w, SlW w A c (limbs v) → Calls Try.prog 77 #[.slice A (limbs v).length c, .int .i64 n] w (RNat R w)) :
    Calls Try.prog 47 #[.slice A (limbs v).length c, .int .i64 n] w (RNE (outN 0 R) w) := by
  refine calls_b fun g => ?_
  have C1 := Lib.hid (fun w h => check_any A c (limbs v) w h)
  rw [chk_limbs hv] at C1
  have CS := Lib.hid CS
  have CY := Lib.hid (fun A c w h hv => fits_yes A c R w h hv)
  have CN := Lib.hid (fun A c w h hv => fits_no A c R w h hv)
  have h1' : decide (n < -10000) = false := decide_eq_false (by omega)
  have h2' : decide (10000 < n) = false := decide_eq_false (by omega)
  have h3 : ¬ (n < -10000) := by omega
  have h4 : ¬ (10000 < n) := by omega
  clear hv hn1 hn2
  generalize (limbs v).length = k at *
  rcases Decidable.em (R < 2 ^ 8192) with hR | hR
  · have hO : outN 0 R = (R, 0) := by unfold outN; rw [if_neg (by simp), if_pos hR]
    rw [hO]
    have HR := Lib.hid hR
    clear hO hR
    go_enter Try.func47, Try.ntmps47
    go_wp2_with (with_reducible refine G.any_mark _ ?_; (try generalize Array.size (World.heap (G.w _)) = bk); (try dsimp only [List.set_cons_zero, List.set_cons_succ]); (try clear g); intro g)
    refine (C1.out _ (G.sl g (by simp) h)).mono ?_
    rintro e w1 ⟨rfl, hb⟩
    obtain ⟨g1, rfl⟩ := G.call_ex _ hb
    clear hb
    (try clear g)
    revert g1
    intro g
    go_wp2_with (with_reducible refine G.any_mark _ ?_; (try generalize Array.size (World.heap (G.w _)) = bk); (try dsimp only [List.set_cons_zero, List.set_cons_succ]); (try clear g); intro g)
    refine (CS.out _ (G.sl g (by simp) h)).mono ?_
    rintro e w1 ⟨Ax, cx, Fx, rfl, hsx, hn⟩
    have hnnx := fun k o hk => Nat.le_trans g.chg.size (hn.new k o hk)
    obtain ⟨g1, rfl⟩ := G.new_ex _ hn
    clear hn
    (try clear g)
    revert g1
    intro g
    go_wp2_with (with_reducible refine G.any_mark _ ?_; (try generalize Array.size (World.heap (G.w _)) = bk); (try dsimp only [List.set_cons_zero, List.set_cons_succ]); (try clear g); intro g)
    refine (CY.out _ _ _ (G.sl g (by simp) hsx) HR.out).mono ?_
    rintro e w1 ⟨rfl, hb⟩
    obtain ⟨g1, rfl⟩ := G.call_ex _ hb
    clear hb
    (try clear g)
    revert g1
    intro g
    go_wp2_with (with_reducible refine G.any_mark _ ?_; (try generalize Array.size (World.heap (G.w _)) = bk); (try dsimp only [List.set_cons_zero, List.set_cons_succ]); (try clear g); intro g)
    go_ret2
    exact rne_pass g hsx (by simp) hnnx 0
  · have hO : outN 0 R = (0, 5) := by unfold outN; rw [if_neg (by simp), if_neg hR]
    rw [hO]
    have HR := Lib.hid hR
    clear hO hR
    go_enter Try.func47, Try.ntmps47
    go_wp2_with (with_reducible refine G.any_mark _ ?_; (try generalize Array.size (World.heap (G.w _)) = bk); (try dsimp only [List.set_cons_zero, List.set_cons_succ]); (try clear g); intro g)
    refine (C1.out _ (G.sl g (by simp) h)).mono ?_
    rintro e w1 ⟨rfl, hb⟩
    obtain ⟨g1, rfl⟩ := G.call_ex _ hb
    clear hb
    (try clear g)
    revert g1
    intro g
    go_wp2_with (with_reducible refine G.any_mark _ ?_; (try generalize Array.size (World.heap (G.w _)) = bk); (try dsimp only [List.set_cons_zero, List.set_cons_succ]); (try clear g); intro g)
    refine (CS.out _ (G.sl g (by simp) h)).mono ?_
    rintro e w1 ⟨Ax, cx, Fx, rfl, hsx, hn⟩
    have hnnx := fun k o hk => Nat.le_trans g.chg.size (hn.new k o hk)
    obtain ⟨g1, rfl⟩ := G.new_ex _ hn
    clear hn
    (try clear g)
    revert g1
    intro g
    go_wp2_with (with_reducible refine G.any_mark _ ?_; (try generalize Array.size (World.heap (G.w _)) = bk); (try dsimp only [List.set_cons_zero, List.set_cons_succ]); (try clear g); intro g)
    refine (CN.out _ _ _ (G.sl g (by simp) hsx) HR.out).mono ?_
    rintro e w1 ⟨rfl, hb⟩
    obtain ⟨g1, rfl⟩ := G.call_ex _ hb
    clear hb
    (try clear g)
    revert g1
    intro g
    go_wp2_with (with_reducible refine G.any_mark _ ?_; (try generalize Array.size (World.heap (G.w _)) = bk); (try dsimp only [List.set_cons_zero, List.set_cons_succ]); (try clear g); intro g)
    go_ret2
    exact rne_err g 5
theorem Shift_up (A : Option Addr) (c v s : Nat) (w : World) (h : SlW w A c (limbs v)) (hv : v < 2 ^ 8192) (hs : s ≤ 10000) :
    Calls Try.prog 47 #[.slice A (limbs v).length c, .int .i64 (s : Int)] w (RNE (outN 0 (v * 2 ^ s)) w) := by
  have hl : (limbs v).length ≤ 256 := (limbs_len v 256).2 (by rw [pow32]; exact hv)
  refine Shift_core A c v s (v * 2 ^ s) w h hv (by omega) (by omega) fun w h => ?_
  have := shift_up A c (limbs v) s w h (by omega) (by omega)
  rwa [val_limbs] at this
theorem Shift_down (A : Option Addr) (c v s : Nat) (w : World) (h : SlW w A c (limbs v)) (hv : v < 2 ^ 8192) (hs : s ≤ 10000) :
    Calls Try.prog 47 #[.slice A (limbs v).length c, .int .i64 (-(s : Int))] w (RNE (v / 2 ^ s, 0) w) := by
  have hl : (limbs v).length ≤ 256 := (limbs_len v 256).2 (by rw [pow32]; exact hv)
  have key := Shift_core A c v (-(s : Int)) (v / 2 ^ s) w h hv (by omega) (by omega) fun w h => by
    by_cases h0 : s = 0
    · subst h0
      have := shift_up A c (limbs v) 0 w h (by omega) (by omega)
      rw [val_limbs] at this
      simpa using this
    · have := shift_down A c (limbs v) s (-(s : Int)) w h (by omega) (by omega) (by omega) (by omega)
      rwa [val_limbs] at this
  have hO : outN 0 (v / 2 ^ s) = (v / 2 ^ s, 0) := by unfold outN; rw [if_neg (by simp), if_pos (Nat.lt_of_le_of_lt (Nat.div_le_self _ _) hv)]
  rwa [hO] at key
/-- what Shift returns -/
def outH (e : Int) (v : Nat) (n : Int) : Nat × Int := if e ≠ 0 then (0, e) else if n < -10000 ∨ 10000 < n then (0, 2) else if n < 0 then (v / 2 ^ n.natAbs, 0) else outN 0 (v * 2 ^ n.natAbs)
theorem Shift_any (A : Option Addr) (c : Nat) (l : List Nat) (n : Int) (w : World) (h : SlW w A c l) :
    Calls Try.prog 47 #[.slice A l.length c, .int .i64 n] w (RNE (outH (chk l) (val l) n) w) := by
  unfold outH
  by_cases hx : chk l = 0
  · rw [if_neg (by simpa using hx)]
    by_cases hn : n < -10000 ∨ 10000 < n
    · rw [if_pos hn]
      exact Shift_range A c l n w h hx hn
    · rw [if_neg hn]
      obtain ⟨e1, b1, _⟩ := chk_ok h.ok hx
      by_cases h0 : n < 0
      · rw [if_pos h0]
        have := Shift_down A c (val l) n.natAbs w (by rw [← e1]; exact h) b1 (by omega)
        rw [← e1, show (-(n.natAbs : Int)) = n by omega] at this
        exact this
      · rw [if_neg h0]
        have := Shift_up A c (val l) n.natAbs w (by rw [← e1]; exact h) b1 (by omega)
        rw [← e1, show ((n.natAbs : Nat) : Int) = n by omega] at this
        exact this
  · rw [if_pos hx]
    exact Shift_err A c l n w h hx
theorem pick_any (x : Int) (h1 : -9223372036854775808 ≤ x) (h2 : x ≤ 9223372036854775807) (w : World) : Calls Try.prog 16 #[.int .i64 x, .int .i64 500] w fun e w' => ∃ k : Nat, k < 500 ∧ e = .returned (.int .i64 k) ∧ w = w' := by
  obtain ⟨T, hT⟩ : ∃ T, Int.tmod x 500 = T := ⟨_, rfl⟩
  have b1 : T < 500 := by rw [← hT]; exact Int.tmod_lt_of_pos _ (by decide)
  have b2 : -500 < T := by rw [← hT]; have := Int.lt_tmod_of_pos x (b := 500) (by decide); omega
  by_cases h0 : T < 0
  · obtain ⟨k, hk⟩ : ∃ k : Nat, T + 500 = (k : Int) := ⟨(T + 500).toNat, by omega⟩
    have hw : IntKind.i64.wrap (k : Int) = (k : Int) := by rw [IntKind.wrap_i64]; omega
    have hw2 : IntKind.i64.wrap T = T := by rw [IntKind.wrap_i64]; omega
    go_enter Try.func16, Try.ntmps16
    go_wp2_with fail
    go_ret
    exact ⟨k, by omega, rfl, rfl⟩
  · obtain ⟨k, hk⟩ : ∃ k : Nat, T = (k : Int) := ⟨T.toNat, by omega⟩
    subst hk
    have hw2 : IntKind.i64.wrap (k : Int) = (k : Int) := by rw [IntKind.wrap_i64]; omega
    go_enter Try.func16, Try.ntmps16
    go_wp2_with fail
    go_ret
    exact ⟨k, by omega, rfl, rfl⟩
end Go.Proofs.Ytodigegjngnknaa
namespace Go.Proofs.Ytodigegjngnknaa
open Go.RowKit GW NL Go.Shelf
attribute [local go_sem] Oper.semAt_some
def _root_.Go.Proofs.Ytodigegjngnknaa.onlyF (F : Frag) : Frag := fun k => match F k with | some o => if o.isCells then some o else none | none => none
theorem onlyF_sub {F : Frag} {k : Nat} {o : Obj} (h : onlyF F k = some o) : F k = some o ∧ o.isCells = true := by
  unfold onlyF at h
  split at h
  · split at h
    · cases h; exact ⟨by assumption, by assumption⟩
    · cases h
  · cases h
theorem onlyF_sl {F : Frag} {A : Option Addr} {c : Nat} {l : List Nat} (h : F.Sl A c l) : (onlyF F).Sl A c l := by
  refine ⟨h.cap, h.max, h.len, ?_, h.ok⟩
  intro hl
  obtain ⟨b, o, e, cs, T, fr, hb, hc⟩ := h.lim hl
  refine ⟨b, o, e, cs, T, fr, ?_, hc⟩
  unfold onlyF
  rw [hb]
  rfl
theorem G.only {w0 : World} {X : List Nat} {M : List Blk} {F : Frag} {I : List Frag} (g : G w0 X M (F :: I)) : ∃ g' : G w0 X M (onlyF F :: I), g.w = g'.w := by
  refine ⟨⟨g.w, g.chg, g.own, g.may, g.dist, ?_, ?_⟩, rfl⟩
  · intro f hf
    rcases List.mem_cons.1 hf with rfl | hf
    · intro k o hk
      exact g.sub F (List.mem_cons_self ..) k o (onlyF_sub hk).1
    · exact g.sub f (List.mem_cons_of_mem _ hf)
  · intro f hf k o hk
    rcases List.mem_cons.1 hf with rfl | hf
    · exact g.keep F (List.mem_cons_self ..) k o (onlyF_sub hk).1
    · exact g.keep f (List.mem_cons_of_mem _ hf) k o hk
/-- a part of a direction: its size is the greatest t that Direction's closure says yes to, up to 2^30 -/
def PartT (D : Nat) (a v : Int) : Prop := ∃ u : Int, v = (if a < 0 then -u else u) ∧ 0 ≤ u ∧ u ≤ 1073741824 ∧ (u = 0 ∨ Yes D (a.natAbs * a.natAbs * 4611686018427387904) u) ∧ (u = 1073741824 ∨ ¬ Yes D (a.natAbs * a.natAbs * 4611686018427387904) (u + 1))
def sq3 (a b c : Int) (i : Nat) : Nat := (co a b c i).natAbs * (co a b c i).natAbs
/-- the sum of squares of the coordinates seen -/
def sumq (a b c : Int) (pre : List (Fin 3)) : Nat := (pre.map fun p => sq3 a b c p.val).sum
theorem sumq_snoc (a b c : Int) (pre : List (Fin 3)) (x : Fin 3) : sumq a b c (pre ++ [x]) = sumq a b c pre + sq3 a b c x.val := by
  unfold sumq; rw [List.map_append, List.sum_append]; simp
theorem sumq_le (a b c : Int) (h : ∀ i : Nat, (co a b c i).natAbs < 2 ^ 38) : ∀ pre : List (Fin 3), sumq a b c pre ≤ pre.length * 2 ^ 76
  | [] => by simp [sumq]
  | x :: pre => by
    have h1 : sq3 a b c x.val < 2 ^ 76 := sq_lt2 (h x.val) (h x.val)
    have h2 := sumq_le a b c h pre
    have e : sumq a b c (x :: pre) = sq3 a b c x.val + sumq a b c pre := by unfold sumq; simp
    rw [e, List.length_cons, Nat.add_mul]
    omega
theorem sumq_all (a b c : Int) : sumq a b c (List.finRange 3) = a.natAbs * a.natAbs + b.natAbs * b.natAbs + c.natAbs * c.natAbs := by
  show a.natAbs * a.natAbs + (b.natAbs * b.natAbs + (c.natAbs * c.natAbs + 0)) = _
  omega
theorem cells_ok2 {w : World} {B bk : Nat} {cs : Array Value} {T : TypeId} {fr : Nat × Nat} {F : Frag} (h : w.heap.size ≤ B) (hF : ∀ k o, F k = some o → o.isCells = true) : ∀ f ∈ [F, blkF bk (.cells cs T fr), heapOf w], ∀ k o, f k = some o → k < B ∨ o.isCells = true := by
  intro f hf k o hk
  rcases List.mem_cons.1 hf with rfl | hf
  · exact .inr (hF k o hk)
  · exact cells_ok h f hf k o hk
theorem G.unbase2 {w0 : World} {M M' : List Blk} {I I' : List Frag} (g : G w0 [] M I) (h : G g.w (M.map (·.1)) M' I') (e : M'.map (·.1) = M.map (·.1)) : ∃ g' : G w0 [] M' I', h.w = g'.w := by
  have mk : ∀ k, k ∈ M.map (·.1) → w0.heap.size ≤ k := by
    intro k hk
    obtain ⟨m, hm, rfl⟩ := List.mem_map.1 hk
    exact g.fresh hm
  refine ⟨⟨h.w, ⟨h.chg.os.trans g.chg.os, h.chg.tape.trans g.chg.tape, h.chg.output.trans g.chg.output, Nat.le_trans g.chg.size h.chg.size, fun k hk _ => ?_⟩, h.own, ?_, h.dist, h.sub, ?_⟩, rfl⟩
  · rw [h.chg.block k (Nat.lt_of_lt_of_le hk g.chg.size) (fun hm => by have := mk k hm; omega)]
    exact g.chg.block k hk (by simp)
  · intro m hm
    refine .inl (mk _ ?_)
    rw [← e]
    exact List.mem_map.2 ⟨m, hm, rfl⟩
  · intro f hf k o hk
    exact ⟨.inr (by simp), (h.keep f hf k o hk).2⟩
theorem G.keeps2 {w0 : World} {M M' : List Blk} {I I' : List Frag} (g : G w0 [] M I) (h : G g.w (M.map (·.1)) M' I') : KeepsOthers g.w h.w :=
  ⟨h.chg.size, fun k o hk ho => by
    rw [h.chg.block k (Array.getElem?_eq_some_iff.1 hk).1 ?_]
    · exact hk
    · intro hm
      obtain ⟨m, hm2, e⟩ := List.mem_map.1 hm
      have := g.own m hm2
      rw [e, hk] at this
      cases this
      cases ho⟩
theorem cells_ok3 {w : World} {B bk E1 : Nat} {cs : Array Value} {T : TypeId} {fr : Nat × Nat} {F : Frag} {oD : Obj} (h : w.heap.size ≤ B) (hE : E1 < B) (hF : ∀ k o, F k = some o → o.isCells = true) : ∀ f ∈ [blkF bk (.cells cs T fr), blkF E1 oD, F, heapOf w], ∀ k o, f k = some o → k < B ∨ o.isCells = true := by
  intro f hf k o hk
  rcases List.mem_cons.1 hf with rfl | hf
  · exact cells_ok (T := T) (fr := fr) (cs := cs) (bk := bk) h _ (List.mem_cons_self ..) k o hk
  · rcases List.mem_cons.1 hf with rfl | hf
    · have := blkF_at hk
      omega
    · rcases List.mem_cons.1 hf with rfl | hf
      · exact .inr (hF k o hk)
      · exact cells_ok (T := T) (fr := fr) (cs := cs) (bk := bk) h f (List.mem_cons_of_mem _ hf) k o hk
theorem cmk {P : Program} {f : FuncId} {args : Array Value} {R : Ending → World → Prop} {w0 : World} {X : List Nat} {M : List Blk} {I : List Frag} (g : G w0 X M I) (h : ∀ g' : G w0 X M I, Calls P f args g'.w R) : Calls P f args g.mark.w R := h _
end Go.Proofs.Ytodigegjngnknaa
namespace Go.Proofs.Ytodigegjngnknaa
open Go.RowKit GW NL Go.Shelf
attribute [local go_sem] Oper.semAt_some
set_option maxRecDepth 100000 in
set_option maxHeartbeats 2000000 in
theorem dir_a (X Y Z U V W a b c : Int) (w : World) (ha : U - X = a) (hb : V - Y = b) (hc : W - Z = c) (hp : In3 100000000000 X Y Z) (hq : In3 100000000000 U V W) (hne : (X == U) = false) (D : Nat) (hD : a.natAbs * a.natAbs + b.natAbs * b.natAbs + c.natAbs * c.natAbs = D) :
    CallsIn Fence.wide 8 Try.prog 19 #[.agg #[.int .i64 X, .int .i64 Y, .int .i64 Z], .agg #[.int .i64 U, .int .i64 V, .int .i64 W]] w fun e W' => (∃ x y z : Int, e = .returned (.tuple #[.agg #[.int .i64 x, .int .i64 y, .int .i64 z], .int .i64 0]) ∧ PartT D a x ∧ PartT D b y ∧ PartT D c z) ∧ Below w.heap.size w W' := by
  have CN := Lib.hid (fun s w h0 h1 h2 h3 h4 h5 => near2_any s X Y Z U V W w h0 h1 h2 h3 h4 h5)
  rw [decide_eq_true hp, decide_eq_true hq] at CN
  have CL := Lib.hid (fun w => less_any U V W X Y Z a b c w ha hb hc (by unfold In3 In at *; rw [IntKind.wrap_i64]; omega) (by unfold In3 In at *; rw [IntKind.wrap_i64]; omega) (by unfold In3 In at *; rw [IntKind.wrap_i64]; omega))
  have bb : ∀ i : Nat, (co a b c i).natAbs < 2 ^ 38 := by
    intro i
    unfold In3 In at *
    have : co a b c i = a ∨ co a b c i = b ∨ co a b c i = c := by
      match i with
      | 0 => exact .inl rfl
      | 1 => exact .inr (.inl rfl)
      | (_ + 2) => exact .inr (.inr rfl)
    omega
  have HBB := Lib.hid bb
  have HD := Lib.hid hD
  clear ha hb hc hp hq bb hD
  suffices hg : ∀ g : G w [] [] [heapOf w], CallsIn Fence.wide 8 Try.prog 19 #[.agg #[.int .i64 X, .int .i64 Y, .int .i64 Z], .agg #[.int .i64 U, .int .i64 V, .int .i64 W]] g.w fun e W' => (∃ x y z : Int, e = .returned (.tuple #[.agg #[.int .i64 x, .int .i64 y, .int .i64 z], .int .i64 0]) ∧ PartT D a x ∧ PartT D b y ∧ PartT D c z) ∧ Below w.heap.size w W' from hg (G.begin w)
  intro g
  refine callsIn_of_wp_marks Try.func19 rfl trivial ?_ rfl
  simp only [Try.ntmps19, List.size_toArray, List.length_cons, List.length_nil, Nat.reduceAdd, Nat.reduceSub, Array.replicate_succ, Array.replicate_zero, List.push_toArray, List.append_toArray, List.nil_append, List.cons_append]
  gi_wp2_with (first | (with_reducible refine G.any_mark _ ?_; (try generalize Array.size (World.heap (G.w _)) = bk); (try dsimp only [List.set_cons_zero, List.set_cons_succ]); (try clear g); intro g) | (refine ⟨trivial, ?_⟩; gi_at_call 34; refine (callsIn_wide.2 (CN.out _ _ (by go_simp) (by go_simp) (by go_simp) (by go_simp) (by go_simp) (by go_simp))).mono ?_; rintro e w' ⟨rfl, hb⟩; obtain ⟨g1, rfl⟩ := G.call_ex _ hb; clear hb; (try clear g); revert g1; intro g) | (refine ⟨trivial, ?_⟩; gi_at_call 36; refine (callsIn_wide.2 (CL.out _)).mono ?_; rintro e w' ⟨rfl, hb⟩; obtain ⟨g1, rfl⟩ := G.call_ex _ hb; clear hb; (try clear g); revert g1; intro g) | (refine ⟨trivial, ?_⟩; gi_at_call 44; refine (coord_in Fence.wide (8 - 1) trivial rfl _ _ _ _).mono ?_; rintro e w' ⟨rfl, rfl⟩))
  rename_i px qx rb sb hnn vb K hK db
  obtain ⟨g0, hg0⟩ := G.fix g
  rw [hg0]
  clear hg0 g
  obtain ⟨g1, hg1⟩ := G.less g0 (M' := [(db, 65, [.slice none 0 0]), (vb, 55, [.int .i64 a, .int .i64 b, .int .i64 c]), (rb, 23, [.int .i64 0, .int .i64 0, .int .i64 0])]) (by simp)
  rw [hg1]
  clear hg1 g0
  have hbs : g1.w.heap[bk]? = some (.cells [Value.int .i64 a, Value.int .i64 b, Value.int .i64 c].toArray 55 (0, 0)) := blkF_sub' g1 (by simp)
  have hb0 : g1.w.cell? ⟨bk, 0, none⟩ = some (.int .i64 a) := (cell_of_row g1.w bk 0 _ _ _ hbs).trans (by simp)
  have hb1 : g1.w.cell? ⟨bk, 1, none⟩ = some (.int .i64 b) := (cell_of_row g1.w bk 1 _ _ _ hbs).trans (by simp)
  have hb2 : g1.w.cell? ⟨bk, 2, none⟩ = some (.int .i64 c) := (cell_of_row g1.w bk 2 _ _ _ hbs).trans (by simp)
  have hbl : bk < g1.w.heap.size := (Array.getElem?_eq_some_iff.1 hbs).1
  refine wpIn_rangeFunc_ownG rfl (by omega) (gf := 72) (lb := #[.pointer (some ⟨bk, 0, none⟩)]) rfl trivial (enters_of Try.func72 (by kernel_rfl) rfl)
    (coord_stopsK Fence.wide (8 - 1) trivial rfl (by omega) bk a b c (fun _ _ => True) g1.w hbl hb0 hb1 hb2) (fun _ _ => trivial) (fun _ _ _ _ _ _ _ _ => trivial) (Below.refl _ _) (fun _ => rfl)
    (fun pre W => ∃ (A : Option Addr) (c1 : Nat) (F : Frag), F.Sl A c1 (limbs (sumq a b c pre)) ∧ (∀ k o, F k = some o → o.isCells = true) ∧ ∃ g : G w [] [(db, 65, [.slice A (limbs (sumq a b c pre)).length c1]), (vb, 55, [.int .i64 a, .int .i64 b, .int .i64 c]), (rb, 23, [.int .i64 0, .int .i64 0, .int .i64 0])] [F, blkF bk (.cells [Value.int .i64 a, Value.int .i64 b, Value.int .i64 c].toArray 55 (0, 0)), heapOf w], W = g.w)
    (fun c pre W => False)
    (fun s W W' row hs hg hr => by
      obtain ⟨A, c1, F, h1, h2, g, rfl⟩ := hs
      obtain ⟨g', e⟩ := g.grown_ex (B := g1.w.heap.size) g1.chg.size (cells_ok2 g1.chg.size h2) hg hr
      exact ⟨A, c1, F, h1, h2, g', e⟩)
    (fun c s W W' row hs hg hr => hs)
    ⟨none, 0, fun _ => none, by rw [show sumq a b c [] = 0 from rfl, limbs_zero]; exact Frag.Sl.nil _ _, fun k o h => (by cases h), by
      rw [show sumq a b c [] = 0 from rfl, limbs_zero]
      exact ⟨g1.see (fun _ => none) (fun k o h => (by cases h)) (fun k o h => (by cases h)), rfl⟩⟩
    (fun x => { tmps := #[.agg #[.int .i64 X, .int .i64 Y, .int .i64 Z], .agg #[.int .i64 U, .int .i64 V, .int .i64 W], .pointer (some ⟨px, 0, none⟩), .pointer (some ⟨qx, 0, none⟩), .pointer (some ⟨rb, 0, none⟩), .int .i64 0, .int .i64 (nearE true), .pointer (some ⟨vb, 0, none⟩), .pointer (some ⟨db, 0, none⟩), undef, .int .i64 (co a b c x.val), undef, undef, undef, undef, undef, .agg #[.int .i64 X, .int .i64 Y, .int .i64 Z], .agg #[.int .i64 U, .int .i64 V, .int .i64 W], .slice (some ⟨sb, 0, none⟩) 2 2, .int .i64 (nearE true), .int .i64 (nearE true), .bool false, undef, undef, .agg #[.int .i64 X, .int .i64 Y, .int .i64 Z], .agg #[.int .i64 U, .int .i64 V, .int .i64 W], .bool false, undef, .agg #[.int .i64 U, .int .i64 V, .int .i64 W], .agg #[.int .i64 U, .int .i64 V, .int .i64 W], .agg #[.int .i64 X, .int .i64 Y, .int .i64 Z], .agg #[.int .i64 X, .int .i64 Y, .int .i64 Z], .agg #[.int .i64 a, .int .i64 b, .int .i64 c], .agg #[.int .i64 a, .int .i64 b, .int .i64 c], .func (.func 72) #[] #[.pointer (some ⟨bk, 0, none⟩)], .int .i64 ((x.val : Nat) : Int), .int .i64 (co a b c x.val), undef, undef, undef, undef, undef, undef, undef, undef, undef, undef, undef, undef, undef, undef, undef, undef, undef, undef, undef, undef, undef, undef, undef, undef, undef, undef, undef, undef, undef, undef, undef, undef, undef, undef, undef, undef], defers := [] }) ?assign ?body ?done ?stop
  case assign =>
    intro l x W K hK
    gi_wp2
    exact hK
  case stop => intro D c pre W _ _ h _; exact h.elim
  case body =>
    rintro lp pre x W1 ⟨A, c1, F, hF, hF2, g, rfl⟩ hlt
    refine G.at_rebase g (fun h' => ?_)
    have hsn := sumq_snoc a b c pre x
    have hsl := sumq_le a b c HBB.out pre
    have hx38 := HBB.out x.val
    have hxx : sq3 a b c x.val < 2 ^ 76 := sq_lt2 hx38 hx38
    obtain ⟨y, hy⟩ : ∃ y, co a b c x.val = y := ⟨_, rfl⟩
    have CS := Lib.hid (fun w => dsq_any (co a b c x.val) _ rfl (by omega) w)
    have hq : (co a b c x.val).natAbs * (co a b c x.val).natAbs = sq3 a b c x.val := rfl
    rw [hq, hy] at CS
    rw [hy]
    obtain ⟨s, hs⟩ : ∃ s, sumq a b c pre = s := ⟨_, rfl⟩
    obtain ⟨q, hq2⟩ : ∃ q, sq3 a b c x.val = q := ⟨_, rfl⟩
    rw [hs] at hF hsl hsn
    rw [hq2] at hxx CS hsn
    have hs80 : s < 2 ^ 80 := by omega
    have HSN := Lib.hid hsn
    obtain ⟨g0, hg0⟩ : ∃ g0 : G g.w [db, vb, rb] [(db, 65, [.slice A (limbs s).length c1]), (vb, 55, [.int .i64 a, .int .i64 b, .int .i64 c]), (rb, 23, [.int .i64 0, .int .i64 0, .int .i64 0])] [F, blkF bk (.cells [Value.int .i64 a, Value.int .i64 b, Value.int .i64 c].toArray 55 (0, 0)), heapOf w], h'.w = g0.w := by subst hs; exact ⟨h', rfl⟩
    rw [hg0]
    clear hg0 h'
    have CA := Lib.hid (fun A1 A2 c1 c2 w h1 h2 => Add_ok A1 A2 c1 c2 s q w h1 h2 (p8192 hs80 (by decide)) (p8192 hxx (by decide)) (p8192 (k := 82) (by omega) (by decide)))
    unfold RLim at CS
    unfold RNE at CA
    dsimp only at CA
    generalize hl1 : (limbs s).length = ls at *
    generalize hl2 : (limbs q).length = lq at *
    generalize hl3 : (limbs (s + q)).length = lsq at *
    have HL3 := Lib.hid hl3
    clear hl1 hl2 hl3 hbs hb0 hb1 hb2 hbl hs hq2 hq hsn hsl hx38 hxx hs80 hy
    gi_wp2_with fail
    refine wpIn_round_held (S := fun _ => True) (by kernel_rfl) (by rintro ⟨a, w, h⟩; exact h) (by kernel_rfl) trivial (fun hHeld => ?_)
    refine wpAnyH_take (i := 1) (v := ?_) rfl (by kernel_rfl) (by kernel_rfl) (by kernel_rfl) (fun _ _ _ h => h) (Or.inl ⟨by rfl, ?_⟩) (by assumption) ?_
    rotate_left 1
    · (intro w hSw; (try dsimp only at hSw); go_simp; (try with_reducible rfl))
    (try simp only [Act.put, List.setIfInBounds_toArray, List.set_cons_zero, List.set_cons_succ])
    refine wpAnyH_ready (rs := [0, 2]) (by kernel_rfl) (by simp) ?_
    refine AllReadyH.cons rfl (fun K hK => ?_) (AllReadyH.cons rfl (fun K hK => ?_) AllReadyH.nil)
    · (as_aux_lemma =>
      go_simp
      refine hK.out _ _ trivial (fun hHeld => ?_)
      clear hK K
      (try simp only [Act.put, List.setIfInBounds_toArray, List.set_cons_zero, List.set_cons_succ])
      refine wpAnyH_ready (rs := [2]) (by kernel_rfl) (by simp) ?_
      refine AllReadyH.cons rfl (fun K hK => ?_) AllReadyH.nil
      go_simp
      refine (CS.out _).mono ?_
      rintro e w' ⟨Aq, cq, Fq, rfl, hsq, hn⟩
      obtain ⟨g1', rfl⟩ := G.new_ex _ hn
      clear hn
      (try clear g0)
      revert g1'
      intro g0
      dsimp only
      refine hK.out _ _ trivial (fun hHeld => ?_)
      clear hK K
      (try simp only [Act.put, List.setIfInBounds_toArray, List.set_cons_zero, List.set_cons_succ])
      refine wpAnyH_ready (rs := [3]) (by kernel_rfl) (by simp) ?_
      refine AllReadyH.cons rfl (fun K hK => ?_) AllReadyH.nil
      go_simp
      refine (CA.out _ _ _ _ _ (G.sl g0 (by simp) hF) (G.sl g0 (by simp) hsq)).mono ?_
      rintro e w' ⟨Ar, cr, Fr, rfl, hsr, hn⟩
      obtain ⟨g1', rfl⟩ := G.new_ex _ hn
      clear hn
      (try clear g0)
      revert g1'
      intro g0
      dsimp only
      refine hK.out _ _ trivial (fun hHeld => ?_)
      clear hK K
      (try simp only [Act.put, List.setIfInBounds_toArray, List.set_cons_zero, List.set_cons_succ])
      refine wpAnyH_take (i := 4) (v := ?_) rfl (by kernel_rfl) (by kernel_rfl) (by kernel_rfl) (fun _ _ _ h => h) (Or.inl ⟨by rfl, ?_⟩) (by assumption) ?_
      rotate_left 1
      · (intro w hSw; (try dsimp only at hSw); go_simp; (try with_reducible rfl))
      (try simp only [Act.put, List.setIfInBounds_toArray, List.set_cons_zero, List.set_cons_succ])
      refine wpAnyH_take (i := 5) (v := ?_) rfl (by kernel_rfl) (by kernel_rfl) (by kernel_rfl) (fun _ _ _ h => h) (Or.inl ⟨by rfl, ?_⟩) (by assumption) ?_
      rotate_left 1
      · (intro w hSw; (try dsimp only at hSw); go_simp; (try with_reducible rfl))
      (try simp only [Act.put, List.setIfInBounds_toArray, List.set_cons_zero, List.set_cons_succ])
      refine wpAnyH_take (i := 6) (v := ?_) rfl (by kernel_rfl) (by kernel_rfl) (by kernel_rfl) (fun _ _ _ h => h) (Or.inl ⟨by rfl, ?_⟩) (by assumption) ?_
      rotate_left 1
      · (intro w hSw; (try dsimp only at hSw); go_simp; (try with_reducible rfl))
      (try simp only [Act.put, List.setIfInBounds_toArray, List.set_cons_zero, List.set_cons_succ])
      refine wpAnyH_ready (rs := [7]) (by kernel_rfl) (by simp) ?_
      refine AllReadyH.cons rfl (fun K hK => ?_) AllReadyH.nil
      go_simp
      refine G.any_mark _ ?_
      (try dsimp only [List.set_cons_zero, List.set_cons_succ])
      clear g0 hHeld
      intro g0
      refine hK.out _ _ trivial (fun hHeld => ?_)
      clear hK K
      (try simp only [Act.put, List.setIfInBounds_toArray, List.set_cons_zero, List.set_cons_succ])
      refine wpAnyH_done (by kernel_rfl) ?_ _
      gi_wp2_with fail
      obtain ⟨g2, hg2⟩ := G.lessI g0 (I' := [Fr, blkF bk (.cells [Value.int .i64 a, Value.int .i64 b, Value.int .i64 c].toArray 55 (0, 0)), heapOf w]) (by simp)
      obtain ⟨g3, hg3⟩ := G.only g2
      obtain ⟨g4, hg4⟩ := G.unbase2 g g3 rfl
      rw [hg2, hg3]
      exact ⟨(G.keeps2 g g3).from _, trivial, Ar, cr, onlyF Fr, by rw [HSN.out]; exact onlyF_sl hsr, fun k o h => (onlyF_sub h).2, by rw [HSN.out, HL3.out]; exact ⟨g4, hg4⟩⟩)
    · (as_aux_lemma =>
      go_simp
      refine (CS.out _).mono ?_
      rintro e w' ⟨Aq, cq, Fq, rfl, hsq, hn⟩
      obtain ⟨g1', rfl⟩ := G.new_ex _ hn
      clear hn
      (try clear g0)
      revert g1'
      intro g0
      dsimp only
      refine hK.out _ _ trivial (fun hHeld => ?_)
      clear hK K
      (try simp only [Act.put, List.setIfInBounds_toArray, List.set_cons_zero, List.set_cons_succ])
      refine wpAnyH_ready (rs := [0]) (by kernel_rfl) (by simp) ?_
      refine AllReadyH.cons rfl (fun K hK => ?_) AllReadyH.nil
      go_simp
      refine hK.out _ _ trivial (fun hHeld => ?_)
      clear hK K
      (try simp only [Act.put, List.setIfInBounds_toArray, List.set_cons_zero, List.set_cons_succ])
      refine wpAnyH_ready (rs := [3]) (by kernel_rfl) (by simp) ?_
      refine AllReadyH.cons rfl (fun K hK => ?_) AllReadyH.nil
      go_simp
      refine (CA.out _ _ _ _ _ (G.sl g0 (by simp) hF) (G.sl g0 (by simp) hsq)).mono ?_
      rintro e w' ⟨Ar, cr, Fr, rfl, hsr, hn⟩
      obtain ⟨g1', rfl⟩ := G.new_ex _ hn
      clear hn
      (try clear g0)
      revert g1'
      intro g0
      dsimp only
      refine hK.out _ _ trivial (fun hHeld => ?_)
      clear hK K
      (try simp only [Act.put, List.setIfInBounds_toArray, List.set_cons_zero, List.set_cons_succ])
      refine wpAnyH_take (i := 4) (v := ?_) rfl (by kernel_rfl) (by kernel_rfl) (by kernel_rfl) (fun _ _ _ h => h) (Or.inl ⟨by rfl, ?_⟩) (by assumption) ?_
      rotate_left 1
      · (intro w hSw; (try dsimp only at hSw); go_simp; (try with_reducible rfl))
      (try simp only [Act.put, List.setIfInBounds_toArray, List.set_cons_zero, List.set_cons_succ])
      refine wpAnyH_take (i := 5) (v := ?_) rfl (by kernel_rfl) (by kernel_rfl) (by kernel_rfl) (fun _ _ _ h => h) (Or.inl ⟨by rfl, ?_⟩) (by assumption) ?_
      rotate_left 1
      · (intro w hSw; (try dsimp only at hSw); go_simp; (try with_reducible rfl))
      (try simp only [Act.put, List.setIfInBounds_toArray, List.set_cons_zero, List.set_cons_succ])
      refine wpAnyH_take (i := 6) (v := ?_) rfl (by kernel_rfl) (by kernel_rfl) (by kernel_rfl) (fun _ _ _ h => h) (Or.inl ⟨by rfl, ?_⟩) (by assumption) ?_
      rotate_left 1
      · (intro w hSw; (try dsimp only at hSw); go_simp; (try with_reducible rfl))
      (try simp only [Act.put, List.setIfInBounds_toArray, List.set_cons_zero, List.set_cons_succ])
      refine wpAnyH_ready (rs := [7]) (by kernel_rfl) (by simp) ?_
      refine AllReadyH.cons rfl (fun K hK => ?_) AllReadyH.nil
      go_simp
      refine G.any_mark _ ?_
      (try dsimp only [List.set_cons_zero, List.set_cons_succ])
      clear g0 hHeld
      intro g0
      refine hK.out _ _ trivial (fun hHeld => ?_)
      clear hK K
      (try simp only [Act.put, List.setIfInBounds_toArray, List.set_cons_zero, List.set_cons_succ])
      refine wpAnyH_done (by kernel_rfl) ?_ _
      gi_wp2_with fail
      obtain ⟨g2, hg2⟩ := G.lessI g0 (I' := [Fr, blkF bk (.cells [Value.int .i64 a, Value.int .i64 b, Value.int .i64 c].toArray 55 (0, 0)), heapOf w]) (by simp)
      obtain ⟨g3, hg3⟩ := G.only g2
      obtain ⟨g4, hg4⟩ := G.unbase2 g g3 rfl
      rw [hg2, hg3]
      exact ⟨(G.keeps2 g g3).from _, trivial, Ar, cr, onlyF Fr, by rw [HSN.out]; exact onlyF_sl hsr, fun k o h => (onlyF_sub h).2, by rw [HSN.out, HL3.out]; exact ⟨g4, hg4⟩⟩)
  case done =>
    rintro E1 ys W1 hE rfl ⟨A, c1, F, hF, hF2, g, rfl⟩ hKd
    obtain ⟨g2, hg2⟩ := g.seeD hKd rfl
    rw [hg2]
    clear hg2 hKd
    rw [sumq_all, HD.out] at hF
    have hsz := Nat.le_trans g1.chg.size hE
    obtain ⟨gD, hgD⟩ : ∃ gD : G w [] [(db, 65, [.slice A (limbs D).length c1]), (vb, 55, [.int .i64 a, .int .i64 b, .int .i64 c]), (rb, 23, [.int .i64 0, .int .i64 0, .int .i64 0])] [blkF E1 (.deferred (some [])), F, heapOf w], g2.w = gD.w := by
      obtain ⟨g3, hg3⟩ := G.lessI g2 (I' := [blkF E1 (.deferred (some [])), F, heapOf w]) (by simp)
      have e : (limbs (sumq a b c (List.finRange 3))).length = (limbs D).length := by rw [sumq_all, HD.out]
      rw [hg3]
      clear hg3
      revert g3
      rw [e]
      intro g3
      exact ⟨g3, rfl⟩
    rw [hgD]
    clear hgD g2 g hbs hb0 hb1 hb2 hbl
    revert gD
    intro g
    rename_i hx1
    obtain ⟨bo, hbo⟩ : ∃ bo : Nat, bk = bo := ⟨_, rfl⟩
    rw [hbo]
    clear hbo
    gi_wp2_with (first | (with_reducible refine G.any_mark _ ?_; (try generalize Array.size (World.heap (G.w _)) = bk); (try dsimp only [List.set_cons_zero, List.set_cons_succ]); (try clear g); intro g) | (refine ⟨trivial, ?_⟩; gi_at_call 44; refine (coord_in Fence.wide (8 - 1) trivial rfl _ _ _ _).mono ?_; rintro e w' ⟨rfl, rfl⟩))
    rename_i ob
    obtain ⟨g0, hg0⟩ := G.fix g
    rw [hg0]
    clear hg0 g
    obtain ⟨g2, hg2⟩ := G.less g0 (M' := [(ob, 72, [.int .i64 0, .int .i64 0, .int .i64 0]), (db, 65, [.slice A (limbs D).length c1]), (rb, 23, [.int .i64 0, .int .i64 0, .int .i64 0])]) (by simp)
    rw [hg2]
    clear hg2 g0
    have hbs : g2.w.heap[bk]? = some (.cells [Value.int .i64 a, Value.int .i64 b, Value.int .i64 c].toArray 55 (0, 0)) := blkF_sub' g2 (by simp)
    have hb0 : g2.w.cell? ⟨bk, 0, none⟩ = some (.int .i64 a) := (cell_of_row g2.w bk 0 _ _ _ hbs).trans (by simp)
    have hb1 : g2.w.cell? ⟨bk, 1, none⟩ = some (.int .i64 b) := (cell_of_row g2.w bk 1 _ _ _ hbs).trans (by simp)
    have hb2 : g2.w.cell? ⟨bk, 2, none⟩ = some (.int .i64 c) := (cell_of_row g2.w bk 2 _ _ _ hbs).trans (by simp)
    have hbl : bk < g2.w.heap.size := (Array.getElem?_eq_some_iff.1 hbs).1
    have hbE : g2.w.heap[E1]? = some (.deferred (some [])) := blkF_sub' g2 (by simp)
    have hEl : E1 < g2.w.heap.size := (Array.getElem?_eq_some_iff.1 hbE).1
    refine wpIn_rangeFunc_ownG rfl (by omega) (gf := 72) (lb := #[.pointer (some ⟨bk, 0, none⟩)]) rfl trivial (enters_of Try.func72 (by kernel_rfl) rfl)
      (coord_stopsK Fence.wide (8 - 1) trivial rfl (by omega) bk a b c (fun _ _ => True) g2.w hbl hb0 hb1 hb2) (fun _ _ => trivial) (fun _ _ _ _ _ _ _ _ => trivial) (Below.refl _ _) (fun _ => rfl)
      (fun pre W => ∃ o0 o1 o2 : Int, ((0 : Fin 3) ∈ pre → PartT D a o0) ∧ ((1 : Fin 3) ∈ pre → PartT D b o1) ∧ ((2 : Fin 3) ∈ pre → PartT D c o2) ∧ ∃ g : G w [] [(ob, 72, [.int .i64 o0, .int .i64 o1, .int .i64 o2]), (db, 65, [.slice A (limbs D).length c1]), (rb, 23, [.int .i64 0, .int .i64 0, .int .i64 0])] [blkF bk (.cells [Value.int .i64 a, Value.int .i64 b, Value.int .i64 c].toArray 55 (0, 0)), blkF E1 (.deferred (some [])), F, heapOf w], W = g.w)
      (fun c pre W => False)
      (fun s W W' row hs hg hr => by
        obtain ⟨o0, o1, o2, q0, q1, q2, g, rfl⟩ := hs
        obtain ⟨g', e⟩ := g.grown_ex (B := g2.w.heap.size) g2.chg.size (cells_ok3 g2.chg.size hEl hF2) hg hr
        exact ⟨o0, o1, o2, q0, q1, q2, g', e⟩)
      (fun c s W W' row hs hg hr => hs)
      ⟨0, 0, 0, (by simp), (by simp), (by simp), g2, rfl⟩
      (fun x => { tmps := #[.agg #[.int .i64 X, .int .i64 Y, .int .i64 Z], .agg #[.int .i64 U, .int .i64 V, .int .i64 W], .pointer (some ⟨px, 0, none⟩), .pointer (some ⟨qx, 0, none⟩), .pointer (some ⟨rb, 0, none⟩), .int .i64 0, .int .i64 (nearE true), .pointer (some ⟨vb, 0, none⟩), .pointer (some ⟨db, 0, none⟩), undef, undef, .pointer (some ⟨ob, 0, none⟩), .int .i64 ((x.val : Nat) : Int), .int .i64 (co a b c x.val), undef, undef, .agg #[.int .i64 X, .int .i64 Y, .int .i64 Z], .agg #[.int .i64 U, .int .i64 V, .int .i64 W], .slice (some ⟨sb, 0, none⟩) 2 2, .int .i64 (nearE true), .int .i64 (nearE true), .bool false, undef, undef, .agg #[.int .i64 X, .int .i64 Y, .int .i64 Z], .agg #[.int .i64 U, .int .i64 V, .int .i64 W], .bool false, undef, .agg #[.int .i64 U, .int .i64 V, .int .i64 W], .agg #[.int .i64 U, .int .i64 V, .int .i64 W], .agg #[.int .i64 X, .int .i64 Y, .int .i64 Z], .agg #[.int .i64 X, .int .i64 Y, .int .i64 Z], .agg #[.int .i64 a, .int .i64 b, .int .i64 c], .agg #[.int .i64 a, .int .i64 b, .int .i64 c], .func (.func 72) #[] #[.pointer (some ⟨bo, 0, none⟩)], undef, undef, undef, undef, undef, undef, undef, undef, undef, .agg #[.int .i64 a, .int .i64 b, .int .i64 c], .func (.func 72) #[] #[.pointer (some ⟨bk, 0, none⟩)], .int .i64 ((x.val : Nat) : Int), .int .i64 (co a b c x.val), undef, undef, undef, undef, undef, undef, undef, undef, undef, undef, undef, undef, undef, undef, undef, undef, undef, undef, undef, undef, undef, undef, undef, undef, undef], defers := [] }) ?assign ?body ?done ?stop
    case assign =>
      intro l x W K hK
      gi_wp2
      exact hK
    case stop => intro D c pre W _ _ h _; exact h.elim
    case body =>
      rintro lp pre x W1 ⟨o0, o1, o2, q0, q1, q2, g, rfl⟩ hlt
      refine G.at_rebase g (fun h' => ?_)
      clear hbs hb0 hb1 hb2 hbl hbE CN CL hlt
      obtain ⟨y, hy⟩ : ∃ y, co a b c x.val = y := ⟨_, rfl⟩
      obtain ⟨n, hn⟩ : ∃ n, y.natAbs = n := ⟨_, rfl⟩
      have n38 : n < 2 ^ 38 := by rw [← hn, ← hy]; exact HBB.out x.val
      have n62 : n < 2 ^ 62 := by omega
      have nn : n * n < 2 ^ 76 := sq_lt2 n38 n38
      have nL : n * n * 4611686018427387904 < 2 ^ 140 := sq_lt2 nn (show 4611686018427387904 < 2 ^ 64 by decide)
      have CS := Lib.hid (fun w => dsq_any y n hn n62 w)
      have CH := Lib.hid (fun A c w h => Shift_up A c (n * n) 62 w h (p8192 nn (by decide)) (by decide))
      have eo : outN 0 (n * n * 2 ^ 62) = (n * n * 4611686018427387904, 0) := by
        unfold outN
        rw [show (2 : Nat) ^ 62 = 4611686018427387904 by decide]
        rw [if_neg (by decide), if_pos (p8192 nL (by decide))]
      rw [eo] at CH
      obtain ⟨L, hL⟩ : ∃ L, n * n * 4611686018427387904 = L := ⟨_, rfl⟩
      rw [hL] at CH nL
      have dD : D < 2 ^ 200 := by
        have h1 := sumq_le a b c HBB.out (List.finRange 3)
        rw [sumq_all, HD.out] at h1
        have : (List.finRange 3).length = 3 := by simp
        rw [this] at h1
        omega
      have CT := Lib.hid (fun b2 A2 c2 w h1 h2 h3 h4 => last_any db b2 A A2 c1 c2 D L w h1 h2 h3 h4 dD (Nat.lt_of_lt_of_le nL (Nat.pow_le_pow_right (by decide) (by decide))))
      have HP : Hid (∀ u : Int, 0 ≤ u → u ≤ 1073741824 → (u = 0 ∨ Yes D L u) → (u = 1073741824 ∨ ¬ Yes D L (u + 1)) → PartT D y (if y < 0 then -u else u)) :=
        Lib.hid (fun u h0 h1 h2 h3 => ⟨u, rfl, h0, h1, by rw [hn, hL]; exact h2, by rw [hn, hL]; exact h3⟩)
      unfold RLim at CS
      unfold RNE at CH
      dsimp only at CH
      generalize hl1 : (limbs (n * n)).length = lq at *
      generalize hl2 : (limbs L).length = lL at *
      generalize hl3 : (limbs D).length = lD at *
      clear hl1 hl2 hl3 n38 n62 nn nL eo hL dD hn
      obtain ⟨xi, hxi⟩ : ∃ xi : Int, ((x.val : Nat) : Int) = xi := ⟨_, rfl⟩
      rw [hy, hxi]
      have hx3 : x = 0 ∨ x = 1 ∨ x = 2 := by
        obtain ⟨i, hi⟩ := x
        have : i = 0 ∨ i = 1 ∨ i = 2 := by omega
        rcases this with rfl | rfl | rfl
        · exact .inl rfl
        · exact .inr (.inl rfl)
        · exact .inr (.inr rfl)
      have HQ := Lib.hid (And.intro q0 (And.intro q1 q2))
      clear q0 q1 q2
      rcases hx3 with rfl | rfl | rfl
      · obtain rfl : xi = 0 := by rw [← hxi]; rfl
        have hya : a = y := hy
        have HYA := Lib.hid hya
        clear hy hya hxi
        by_cases hneg : y < 0
        · (as_aux_lemma =>
          have HNE := Lib.hid hneg
          gi_wp2_with (first | (with_reducible refine G.any_mark _ ?_; (try generalize Array.size (World.heap (G.w _)) = bk2); (try dsimp only [List.set_cons_zero, List.set_cons_succ]); (try clear h'); intro h') | (refine ⟨trivial, ?_⟩; gi_at_call 46; refine (CallsIn.inRound lp (callsIn_wide.2 (CS.out _))).mono ?_; rintro e w' ⟨Aq, cq, Fq, rfl, hsq, hn⟩; obtain ⟨g1', rfl⟩ := G.new_ex _ hn; clear hn; (try clear h'); revert g1'; intro h') | (refine ⟨trivial, ?_⟩; gi_at_call 47; refine (CallsIn.inRound lp (callsIn_wide.2 (CH.out _ _ _ (G.sl h' (by simp) hsq)))).mono ?_; rintro e w' ⟨Al, cl, Fl, rfl, hsl, hn⟩; obtain ⟨g1', rfl⟩ := G.new_ex _ hn; clear hn; (try clear h'); revert g1'; intro h') | (refine ⟨trivial, ?_⟩; gi_at_call 48; refine CallsIn.inRound lp (callsIn_wide.2 ?_); refine cmk _ ?_; (try dsimp only [List.set_cons_zero, List.set_cons_succ]); (try clear h'); intro h'; refine ((CT.out _ _ _ _ (by go_simp) (by go_simp) (G.sl h' (by simp) hF) (G.sl h' (by simp) hsl))).mono ?_; rintro e w' ⟨⟨u, rfl, hu0, hu1, hu2, hu3⟩, hb⟩; obtain ⟨g1', rfl⟩ := G.call_ex _ hb; have hwu : IntKind.i64.wrap (-u) = -u := (by rw [IntKind.wrap_i64]; omega); have HU := Lib.hid (HP.out u hu0 hu1 hu2 hu3); clear hb hu0 hu1 hu2 hu3; (try clear h'); revert g1'; intro h'))
          have HR := HU.out
          rw [if_pos HNE.out] at HR
          refine G.any_mark _ ?_
          (try dsimp only [List.set_cons_zero, List.set_cons_succ])
          clear h'
          intro h'
          obtain ⟨h2, e2⟩ := G.less h' (M' := [(ob, 72, [.int .i64 (-u), .int .i64 o1, .int .i64 o2]), (db, 65, [.slice A lD c1]), (rb, 23, [.int .i64 0, .int .i64 0, .int .i64 0])]) (by simp)
          obtain ⟨h3, e3⟩ := G.lessI h2 (I' := [blkF bk (.cells [Value.int .i64 a, Value.int .i64 b, Value.int .i64 c].toArray 55 (0, 0)), blkF E1 (.deferred (some [])), F, heapOf w]) (by simp)
          obtain ⟨g4, e4⟩ := G.unbase2 g h3 rfl
          rw [e2, e3]
          exact ⟨(G.keeps2 g h3).from _, trivial, (-u), o1, o2, (fun _ => by have := HR; rw [← HYA.out] at this; exact this), (fun hm => HQ.out.2.1 ((List.mem_append.1 hm).elim id (fun e => absurd (List.mem_singleton.1 e) (by decide)))), (fun hm => HQ.out.2.2 ((List.mem_append.1 hm).elim id (fun e => absurd (List.mem_singleton.1 e) (by decide)))), g4, e4⟩)
        · (as_aux_lemma =>
          have HNE := Lib.hid hneg
          gi_wp2_with (first | (with_reducible refine G.any_mark _ ?_; (try generalize Array.size (World.heap (G.w _)) = bk2); (try dsimp only [List.set_cons_zero, List.set_cons_succ]); (try clear h'); intro h') | (refine ⟨trivial, ?_⟩; gi_at_call 46; refine (CallsIn.inRound lp (callsIn_wide.2 (CS.out _))).mono ?_; rintro e w' ⟨Aq, cq, Fq, rfl, hsq, hn⟩; obtain ⟨g1', rfl⟩ := G.new_ex _ hn; clear hn; (try clear h'); revert g1'; intro h') | (refine ⟨trivial, ?_⟩; gi_at_call 47; refine (CallsIn.inRound lp (callsIn_wide.2 (CH.out _ _ _ (G.sl h' (by simp) hsq)))).mono ?_; rintro e w' ⟨Al, cl, Fl, rfl, hsl, hn⟩; obtain ⟨g1', rfl⟩ := G.new_ex _ hn; clear hn; (try clear h'); revert g1'; intro h') | (refine ⟨trivial, ?_⟩; gi_at_call 48; refine CallsIn.inRound lp (callsIn_wide.2 ?_); refine cmk _ ?_; (try dsimp only [List.set_cons_zero, List.set_cons_succ]); (try clear h'); intro h'; refine ((CT.out _ _ _ _ (by go_simp) (by go_simp) (G.sl h' (by simp) hF) (G.sl h' (by simp) hsl))).mono ?_; rintro e w' ⟨⟨u, rfl, hu0, hu1, hu2, hu3⟩, hb⟩; obtain ⟨g1', rfl⟩ := G.call_ex _ hb; have hwu : IntKind.i64.wrap (-u) = -u := (by rw [IntKind.wrap_i64]; omega); have HU := Lib.hid (HP.out u hu0 hu1 hu2 hu3); clear hb hu0 hu1 hu2 hu3; (try clear h'); revert g1'; intro h'))
          have HR := HU.out
          rw [if_neg (show ¬ y < 0 by have := HNE.out; omega)] at HR
          refine G.any_mark _ ?_
          (try dsimp only [List.set_cons_zero, List.set_cons_succ])
          clear h'
          intro h'
          obtain ⟨h2, e2⟩ := G.less h' (M' := [(ob, 72, [.int .i64 u, .int .i64 o1, .int .i64 o2]), (db, 65, [.slice A lD c1]), (rb, 23, [.int .i64 0, .int .i64 0, .int .i64 0])]) (by simp)
          obtain ⟨h3, e3⟩ := G.lessI h2 (I' := [blkF bk (.cells [Value.int .i64 a, Value.int .i64 b, Value.int .i64 c].toArray 55 (0, 0)), blkF E1 (.deferred (some [])), F, heapOf w]) (by simp)
          obtain ⟨g4, e4⟩ := G.unbase2 g h3 rfl
          rw [e2, e3]
          exact ⟨(G.keeps2 g h3).from _, trivial, u, o1, o2, (fun _ => by have := HR; rw [← HYA.out] at this; exact this), (fun hm => HQ.out.2.1 ((List.mem_append.1 hm).elim id (fun e => absurd (List.mem_singleton.1 e) (by decide)))), (fun hm => HQ.out.2.2 ((List.mem_append.1 hm).elim id (fun e => absurd (List.mem_singleton.1 e) (by decide)))), g4, e4⟩)
      · obtain rfl : xi = 1 := by rw [← hxi]; rfl
        have hya : b = y := hy
        have HYA := Lib.hid hya
        clear hy hya hxi
        by_cases hneg : y < 0
        · (as_aux_lemma =>
          have HNE := Lib.hid hneg
          gi_wp2_with (first | (with_reducible refine G.any_mark _ ?_; (try generalize Array.size (World.heap (G.w _)) = bk2); (try dsimp only [List.set_cons_zero, List.set_cons_succ]); (try clear h'); intro h') | (refine ⟨trivial, ?_⟩; gi_at_call 46; refine (CallsIn.inRound lp (callsIn_wide.2 (CS.out _))).mono ?_; rintro e w' ⟨Aq, cq, Fq, rfl, hsq, hn⟩; obtain ⟨g1', rfl⟩ := G.new_ex _ hn; clear hn; (try clear h'); revert g1'; intro h') | (refine ⟨trivial, ?_⟩; gi_at_call 47; refine (CallsIn.inRound lp (callsIn_wide.2 (CH.out _ _ _ (G.sl h' (by simp) hsq)))).mono ?_; rintro e w' ⟨Al, cl, Fl, rfl, hsl, hn⟩; obtain ⟨g1', rfl⟩ := G.new_ex _ hn; clear hn; (try clear h'); revert g1'; intro h') | (refine ⟨trivial, ?_⟩; gi_at_call 48; refine CallsIn.inRound lp (callsIn_wide.2 ?_); refine cmk _ ?_; (try dsimp only [List.set_cons_zero, List.set_cons_succ]); (try clear h'); intro h'; refine ((CT.out _ _ _ _ (by go_simp) (by go_simp) (G.sl h' (by simp) hF) (G.sl h' (by simp) hsl))).mono ?_; rintro e w' ⟨⟨u, rfl, hu0, hu1, hu2, hu3⟩, hb⟩; obtain ⟨g1', rfl⟩ := G.call_ex _ hb; have hwu : IntKind.i64.wrap (-u) = -u := (by rw [IntKind.wrap_i64]; omega); have HU := Lib.hid (HP.out u hu0 hu1 hu2 hu3); clear hb hu0 hu1 hu2 hu3; (try clear h'); revert g1'; intro h'))
          have HR := HU.out
          rw [if_pos HNE.out] at HR
          refine G.any_mark _ ?_
          (try dsimp only [List.set_cons_zero, List.set_cons_succ])
          clear h'
          intro h'
          obtain ⟨h2, e2⟩ := G.less h' (M' := [(ob, 72, [.int .i64 o0, .int .i64 (-u), .int .i64 o2]), (db, 65, [.slice A lD c1]), (rb, 23, [.int .i64 0, .int .i64 0, .int .i64 0])]) (by simp)
          obtain ⟨h3, e3⟩ := G.lessI h2 (I' := [blkF bk (.cells [Value.int .i64 a, Value.int .i64 b, Value.int .i64 c].toArray 55 (0, 0)), blkF E1 (.deferred (some [])), F, heapOf w]) (by simp)
          obtain ⟨g4, e4⟩ := G.unbase2 g h3 rfl
          rw [e2, e3]
          exact ⟨(G.keeps2 g h3).from _, trivial, o0, (-u), o2, (fun hm => HQ.out.1 ((List.mem_append.1 hm).elim id (fun e => absurd (List.mem_singleton.1 e) (by decide)))), (fun _ => by have := HR; rw [← HYA.out] at this; exact this), (fun hm => HQ.out.2.2 ((List.mem_append.1 hm).elim id (fun e => absurd (List.mem_singleton.1 e) (by decide)))), g4, e4⟩)
        · (as_aux_lemma =>
          have HNE := Lib.hid hneg
          gi_wp2_with (first | (with_reducible refine G.any_mark _ ?_; (try generalize Array.size (World.heap (G.w _)) = bk2); (try dsimp only [List.set_cons_zero, List.set_cons_succ]); (try clear h'); intro h') | (refine ⟨trivial, ?_⟩; gi_at_call 46; refine (CallsIn.inRound lp (callsIn_wide.2 (CS.out _))).mono ?_; rintro e w' ⟨Aq, cq, Fq, rfl, hsq, hn⟩; obtain ⟨g1', rfl⟩ := G.new_ex _ hn; clear hn; (try clear h'); revert g1'; intro h') | (refine ⟨trivial, ?_⟩; gi_at_call 47; refine (CallsIn.inRound lp (callsIn_wide.2 (CH.out _ _ _ (G.sl h' (by simp) hsq)))).mono ?_; rintro e w' ⟨Al, cl, Fl, rfl, hsl, hn⟩; obtain ⟨g1', rfl⟩ := G.new_ex _ hn; clear hn; (try clear h'); revert g1'; intro h') | (refine ⟨trivial, ?_⟩; gi_at_call 48; refine CallsIn.inRound lp (callsIn_wide.2 ?_); refine cmk _ ?_; (try dsimp only [List.set_cons_zero, List.set_cons_succ]); (try clear h'); intro h'; refine ((CT.out _ _ _ _ (by go_simp) (by go_simp) (G.sl h' (by simp) hF) (G.sl h' (by simp) hsl))).mono ?_; rintro e w' ⟨⟨u, rfl, hu0, hu1, hu2, hu3⟩, hb⟩; obtain ⟨g1', rfl⟩ := G.call_ex _ hb; have hwu : IntKind.i64.wrap (-u) = -u := (by rw [IntKind.wrap_i64]; omega); have HU := Lib.hid (HP.out u hu0 hu1 hu2 hu3); clear hb hu0 hu1 hu2 hu3; (try clear h'); revert g1'; intro h'))
          have HR := HU.out
          rw [if_neg (show ¬ y < 0 by have := HNE.out; omega)] at HR
          refine G.any_mark _ ?_
          (try dsimp only [List.set_cons_zero, List.set_cons_succ])
          clear h'
          intro h'
          obtain ⟨h2, e2⟩ := G.less h' (M' := [(ob, 72, [.int .i64 o0, .int .i64 u, .int .i64 o2]), (db, 65, [.slice A lD c1]), (rb, 23, [.int .i64 0, .int .i64 0, .int .i64 0])]) (by simp)
          obtain ⟨h3, e3⟩ := G.lessI h2 (I' := [blkF bk (.cells [Value.int .i64 a, Value.int .i64 b, Value.int .i64 c].toArray 55 (0, 0)), blkF E1 (.deferred (some [])), F, heapOf w]) (by simp)
          obtain ⟨g4, e4⟩ := G.unbase2 g h3 rfl
          rw [e2, e3]
          exact ⟨(G.keeps2 g h3).from _, trivial, o0, u, o2, (fun hm => HQ.out.1 ((List.mem_append.1 hm).elim id (fun e => absurd (List.mem_singleton.1 e) (by decide)))), (fun _ => by have := HR; rw [← HYA.out] at this; exact this), (fun hm => HQ.out.2.2 ((List.mem_append.1 hm).elim id (fun e => absurd (List.mem_singleton.1 e) (by decide)))), g4, e4⟩)
      · obtain rfl : xi = 2 := by rw [← hxi]; rfl
        have hya : c = y := hy
        have HYA := Lib.hid hya
        clear hy hya hxi
        by_cases hneg : y < 0
        · (as_aux_lemma =>
          have HNE := Lib.hid hneg
          gi_wp2_with (first | (with_reducible refine G.any_mark _ ?_; (try generalize Array.size (World.heap (G.w _)) = bk2); (try dsimp only [List.set_cons_zero, List.set_cons_succ]); (try clear h'); intro h') | (refine ⟨trivial, ?_⟩; gi_at_call 46; refine (CallsIn.inRound lp (callsIn_wide.2 (CS.out _))).mono ?_; rintro e w' ⟨Aq, cq, Fq, rfl, hsq, hn⟩; obtain ⟨g1', rfl⟩ := G.new_ex _ hn; clear hn; (try clear h'); revert g1'; intro h') | (refine ⟨trivial, ?_⟩; gi_at_call 47; refine (CallsIn.inRound lp (callsIn_wide.2 (CH.out _ _ _ (G.sl h' (by simp) hsq)))).mono ?_; rintro e w' ⟨Al, cl, Fl, rfl, hsl, hn⟩; obtain ⟨g1', rfl⟩ := G.new_ex _ hn; clear hn; (try clear h'); revert g1'; intro h') | (refine ⟨trivial, ?_⟩; gi_at_call 48; refine CallsIn.inRound lp (callsIn_wide.2 ?_); refine cmk _ ?_; (try dsimp only [List.set_cons_zero, List.set_cons_succ]); (try clear h'); intro h'; refine ((CT.out _ _ _ _ (by go_simp) (by go_simp) (G.sl h' (by simp) hF) (G.sl h' (by simp) hsl))).mono ?_; rintro e w' ⟨⟨u, rfl, hu0, hu1, hu2, hu3⟩, hb⟩; obtain ⟨g1', rfl⟩ := G.call_ex _ hb; have hwu : IntKind.i64.wrap (-u) = -u := (by rw [IntKind.wrap_i64]; omega); have HU := Lib.hid (HP.out u hu0 hu1 hu2 hu3); clear hb hu0 hu1 hu2 hu3; (try clear h'); revert g1'; intro h'))
          have HR := HU.out
          rw [if_pos HNE.out] at HR
          refine G.any_mark _ ?_
          (try dsimp only [List.set_cons_zero, List.set_cons_succ])
          clear h'
          intro h'
          obtain ⟨h2, e2⟩ := G.less h' (M' := [(ob, 72, [.int .i64 o0, .int .i64 o1, .int .i64 (-u)]), (db, 65, [.slice A lD c1]), (rb, 23, [.int .i64 0, .int .i64 0, .int .i64 0])]) (by simp)
          obtain ⟨h3, e3⟩ := G.lessI h2 (I' := [blkF bk (.cells [Value.int .i64 a, Value.int .i64 b, Value.int .i64 c].toArray 55 (0, 0)), blkF E1 (.deferred (some [])), F, heapOf w]) (by simp)
          obtain ⟨g4, e4⟩ := G.unbase2 g h3 rfl
          rw [e2, e3]
          exact ⟨(G.keeps2 g h3).from _, trivial, o0, o1, (-u), (fun hm => HQ.out.1 ((List.mem_append.1 hm).elim id (fun e => absurd (List.mem_singleton.1 e) (by decide)))), (fun hm => HQ.out.2.1 ((List.mem_append.1 hm).elim id (fun e => absurd (List.mem_singleton.1 e) (by decide)))), (fun _ => by have := HR; rw [← HYA.out] at this; exact this), g4, e4⟩)
        · (as_aux_lemma =>
          have HNE := Lib.hid hneg
          gi_wp2_with (first | (with_reducible refine G.any_mark _ ?_; (try generalize Array.size (World.heap (G.w _)) = bk2); (try dsimp only [List.set_cons_zero, List.set_cons_succ]); (try clear h'); intro h') | (refine ⟨trivial, ?_⟩; gi_at_call 46; refine (CallsIn.inRound lp (callsIn_wide.2 (CS.out _))).mono ?_; rintro e w' ⟨Aq, cq, Fq, rfl, hsq, hn⟩; obtain ⟨g1', rfl⟩ := G.new_ex _ hn; clear hn; (try clear h'); revert g1'; intro h') | (refine ⟨trivial, ?_⟩; gi_at_call 47; refine (CallsIn.inRound lp (callsIn_wide.2 (CH.out _ _ _ (G.sl h' (by simp) hsq)))).mono ?_; rintro e w' ⟨Al, cl, Fl, rfl, hsl, hn⟩; obtain ⟨g1', rfl⟩ := G.new_ex _ hn; clear hn; (try clear h'); revert g1'; intro h') | (refine ⟨trivial, ?_⟩; gi_at_call 48; refine CallsIn.inRound lp (callsIn_wide.2 ?_); refine cmk _ ?_; (try dsimp only [List.set_cons_zero, List.set_cons_succ]); (try clear h'); intro h'; refine ((CT.out _ _ _ _ (by go_simp) (by go_simp) (G.sl h' (by simp) hF) (G.sl h' (by simp) hsl))).mono ?_; rintro e w' ⟨⟨u, rfl, hu0, hu1, hu2, hu3⟩, hb⟩; obtain ⟨g1', rfl⟩ := G.call_ex _ hb; have hwu : IntKind.i64.wrap (-u) = -u := (by rw [IntKind.wrap_i64]; omega); have HU := Lib.hid (HP.out u hu0 hu1 hu2 hu3); clear hb hu0 hu1 hu2 hu3; (try clear h'); revert g1'; intro h'))
          have HR := HU.out
          rw [if_neg (show ¬ y < 0 by have := HNE.out; omega)] at HR
          refine G.any_mark _ ?_
          (try dsimp only [List.set_cons_zero, List.set_cons_succ])
          clear h'
          intro h'
          obtain ⟨h2, e2⟩ := G.less h' (M' := [(ob, 72, [.int .i64 o0, .int .i64 o1, .int .i64 u]), (db, 65, [.slice A lD c1]), (rb, 23, [.int .i64 0, .int .i64 0, .int .i64 0])]) (by simp)
          obtain ⟨h3, e3⟩ := G.lessI h2 (I' := [blkF bk (.cells [Value.int .i64 a, Value.int .i64 b, Value.int .i64 c].toArray 55 (0, 0)), blkF E1 (.deferred (some [])), F, heapOf w]) (by simp)
          obtain ⟨g4, e4⟩ := G.unbase2 g h3 rfl
          rw [e2, e3]
          exact ⟨(G.keeps2 g h3).from _, trivial, o0, o1, u, (fun hm => HQ.out.1 ((List.mem_append.1 hm).elim id (fun e => absurd (List.mem_singleton.1 e) (by decide)))), (fun hm => HQ.out.2.1 ((List.mem_append.1 hm).elim id (fun e => absurd (List.mem_singleton.1 e) (by decide)))), (fun _ => by have := HR; rw [← HYA.out] at this; exact this), g4, e4⟩)
    case done =>
      rintro E2 ys W1 hE2 rfl ⟨o0, o1, o2, q0, q1, q2, g, rfl⟩ hKd2
      have p0 := q0 (by simp)
      have p1 := q1 (by simp)
      have p2 := q2 (by simp)
      obtain ⟨g3, hg3⟩ := g.seeD hKd2 rfl
      rw [hg3]
      gi_wp2_with fail
      refine G.any_mark _ ?_
      (try dsimp only [List.set_cons_zero, List.set_cons_succ])
      clear g3 hg3 g hKd2
      intro g
      have k2 : g.w.heap[E2]? = some (Obj.deferred (some [])) := blkF_sub' g (by simp)
      have k1 : g.w.heap[E1]? = some (Obj.deferred (some [])) := blkF_sub' g (by simp)
      refine ⟨by simp, .inl ⟨_, _, rfl, run_takeDeferred k2, ?_⟩⟩
      have hne2 : E1 ≠ E2 := by omega
      have k1' : (g.w.putObj E2 (.deferred none)).heap[E1]? = some (Obj.deferred (some [])) := (World.putObj_heap_other hne2).trans k1
      refine ⟨by simp, .inl ⟨_, _, rfl, run_takeDeferred k1', ?_⟩⟩
      have gr1 := grownBy_putObj' g.w E2 (.deferred none)
      have gr2 := grownBy_putObj' (g.w.putObj E2 (.deferred none)) E1 (.deferred none)
      have kp : ∀ (o : Nat) (v : Value), g.w.cell? ⟨rb, o, none⟩ = some v → ((g.w.putObj E2 (.deferred none)).putObj E1 (.deferred none)).cell? ⟨rb, o, none⟩ = some v := fun o v h =>
        cell_kept (cell_kept h gr1 (fun r e => by cases e; exact ⟨_, k2, rfl⟩)) gr2 (fun r e => by cases e; exact ⟨_, k1', rfl⟩)
      have c0 := kp 0 (.int .i64 o0) (by simp [go_sem])
      have c1' := kp 1 (.int .i64 o1) (by simp [go_sem])
      have c2' := kp 2 (.int .i64 o2) (by simp [go_sem])
      refine ⟨.tuple #[.agg #[.int .i64 o0, .int .i64 o1, .int .i64 o2], .int .i64 0], by simp [results, Try.f19, go_sem, c0, c1', c2'], ⟨o0, o1, o2, rfl, p0, p1, p2⟩, ?_⟩
      have b1 := g.below.grown gr1 (by have := g.chg.size; omega) (fun k e => by cases e; have := g2.chg.size; omega)
      exact b1.grown gr2 (by have := b1.size; omega) (fun k e => by cases e; exact hsz)
end Go.Proofs.Ytodigegjngnknaa
