/- Plain facts and contracts of functions of the program, out of walks. Their conditions stand ahead of each. -/
import Derived.Test.YtodigegjngnknaaDe22
import Derived.Test.YtodigegjngnknaaDe25
import Derived.Test.YtodigegjngnknaaDe30
import Derived.Test.YtodigegjngnknaaDe31
import Derived.Test.YtodigegjngnknaaDe34
import Derived.Below
import Derived.BigQuiet
import Derived.Deep.Draws
import Derived.Deep.LoopGhost
import Derived.Deep.QuietTactic
import Derived.Deep.RegionHeld3
import Derived.Deep.WholeRow
import Derived.Defers
import Derived.Great.BuildSlice
import Derived.Laws.Bits128
import Derived.Laws.BitsLemmas
import Derived.Laws.BytesString
import Derived.Laws.Cells
import Derived.Laws.CopyOwn
import Derived.Laws.Externs
import Derived.Laws.IdiomStrings
import Derived.Laws.NewBlocks
import Derived.Laws.OwnMore
import Derived.Laws.Pointers
import Derived.Laws.Rows
import Derived.Lib.BitFns
import Derived.Lib.Hide
import Derived.Lib.ItoaNum
import Derived.LoopIn
import Derived.LoopNIn
import Derived.Maps.AppendAt
import Derived.OrdersIn
import Derived.OwnWalk
import Derived.OwnWalkIn
import Derived.RangeFuncBound
import Derived.RangeFuncBox
import Derived.RangeFuncCalls
import Derived.RangeFuncLeaves
import Derived.RangeFuncNested
import Derived.RowKit3
import Derived.Shelf.Abstract
import Derived.Shelf.RegionOpen
import Derived.StillTactics
import Derived.StillTailTactics
import Derived.TacticsInMore
import Derived.Test.YtodigegjngnknaaProg
import Derived.WalkKit
import Derived.WalkLawsBesides
import Derived.WalkMore
import Derived.WalkSpells
set_option linter.unusedVariables false
set_option linter.unusedSimpArgs false
set_option exponentiation.threshold 10000
namespace Go.Proofs.Ytodigegjngnknaa
open Go.RowKit GW NL
/-- the greatest number that is said yes to -/
def Top (D L : Nat) (t : Int) : Prop := 0 ≤ t ∧ (t = 0 ∨ Yes D L t) ∧ ¬ Yes D L (t + 1)
theorem Top.uniq {D L : Nat} {t s : Int} (h : Top D L t) (k : Top D L s) : t = s := by
  obtain ⟨a1, a2, a3⟩ := h
  obtain ⟨b1, b2, b3⟩ := k
  rcases Int.lt_trichotomy t s with g | g | g
  · rcases b2 with b2 | b2
    · omega
    · exact absurd (b2.down (s := t + 1) (by omega) (by omega)) a3
  · exact g
  · rcases a2 with a2 | a2
    · omega
    · exact absurd (a2.down (s := s + 1) (by omega) (by omega)) b3
theorem not_yes {D n : Nat} (hD : 0 < D) (hn : n * n ≤ D) (t : Int) (ht : 1073741825 ≤ t) : ¬ Yes D (n * n * 4611686018427387904) t := by
  intro h
  unfold Yes at h
  obtain ⟨m, hm⟩ : ∃ m, (2 * t - 1).natAbs = m := ⟨_, rfl⟩
  rw [hm] at h
  have h1 : 2147483649 ≤ m := by omega
  have h2 := Nat.mul_le_mul h1 h1
  have h3 := Nat.mul_le_mul_right D h2
  omega
theorem top_ex (D L : Nat) : ∀ k : Nat, ∃ t : Int, 0 ≤ t ∧ t ≤ k ∧ (t = 0 ∨ Yes D L t) ∧ (t = k ∨ ¬ Yes D L (t + 1))
  | 0 => ⟨0, by omega, by omega, .inl rfl, .inl rfl⟩
  | k + 1 => by
    obtain ⟨t, h1, h2, h3, h4⟩ := top_ex D L k
    rcases h4 with h4 | h4
    · subst h4
      by_cases hy : Yes D L ((k : Int) + 1)
      · exact ⟨(k : Int) + 1, by omega, by omega, .inr hy, .inl (by omega)⟩
      · exact ⟨k, by omega, by omega, h3, .inr hy⟩
    · exact ⟨t, h1, by omega, h3, .inr h4⟩
/-- a part of a direction -/
def Dir1 (D : Nat) (a u : Int) : Prop := ∃ t, u = (if a < 0 then -t else t) ∧ Top D (a.natAbs * a.natAbs * 4611686018427387904) t
theorem Dir1.uniq {D : Nat} {a u v : Int} (h : Dir1 D a u) (k : Dir1 D a v) : u = v := by
  obtain ⟨t, rfl, h⟩ := h
  obtain ⟨s, rfl, k⟩ := k
  rw [h.uniq k]
theorem Dir1.ex {D : Nat} {a : Int} (hD : 0 < D) (ha : a.natAbs * a.natAbs ≤ D) : ∃ u, Dir1 D a u := by
  obtain ⟨t, h1, h2, h3, h4⟩ := top_ex D (a.natAbs * a.natAbs * 4611686018427387904) 1073741824
  refine ⟨_, t, rfl, h1, h3, ?_⟩
  rcases h4 with h4 | h4
  · exact not_yes hD ha _ (by omega)
  · exact h4
theorem PartT.dir {D : Nat} {a u : Int} (hD : 0 < D) (ha : a.natAbs * a.natAbs ≤ D) (h : PartT D a u) : Dir1 D a u := by
  obtain ⟨t, e, h1, h2, h3, h4⟩ := h
  refine ⟨t, e, h1, h3, ?_⟩
  rcases h4 with h4 | h4
  · exact not_yes hD ha _ (by omega)
  · exact h4
theorem PartOf.dir {D : Nat} {a u : Int} (h : PartOf D (a.natAbs * a.natAbs * 4611686018427387904) (decide (a < 0)) u) : Dir1 D a u := by
  obtain ⟨t, e, h1, h2, h3, h4⟩ := h
  refine ⟨t, ?_, h1, h3, h4⟩
  rw [e]
  by_cases ha : a < 0
  · rw [decide_eq_true ha, if_pos ha]; rfl
  · rw [decide_eq_false ha, if_neg ha]; rfl
/-- in the words of the plain laws -/
theorem yes_int {D n : Nat} {t : Int} : Yes D (n * n * 4611686018427387904) t ↔ (2 * t - 1) * (2 * t - 1) * (D : Int) ≤ 4611686018427387904 * ((n : Int) * (n : Int)) := by
  unfold Yes
  have e : (((2 * t - 1).natAbs * (2 * t - 1).natAbs * D : Nat) : Int) = (2 * t - 1) * (2 * t - 1) * (D : Int) := by
    rw [Int.natCast_mul, Int.natAbs_mul_self]
  have e2 : ((n * n * 4611686018427387904 : Nat) : Int) = 4611686018427387904 * ((n : Int) * (n : Int)) := by
    rw [Int.natCast_mul, Int.natCast_mul, Int.mul_comm]; rfl
  omega
theorem Top.part {D n : Nat} {t : Int} (h : Top D (n * n * 4611686018427387904) t) : DI.IsPart t n D := by
  obtain ⟨h1, h2, h3⟩ := h
  rw [yes_int] at h2 h3
  refine ⟨h1, h2, ?_⟩
  rw [show 2 * (t + 1) - 1 = 2 * t + 1 by omega] at h3
  omega
theorem Dir1.isDir {D : Nat} {a u : Int} (h : Dir1 D a u) : DI.IsDir u a D := by
  obtain ⟨t, rfl, h⟩ := h
  have := h.part
  by_cases ha : a < 0
  · right
    rw [if_pos ha]
    refine ⟨by omega, ?_⟩
    rw [Int.neg_neg]
    rwa [show (a.natAbs : Int) = -a by omega] at this
  · left
    rw [if_neg ha]
    refine ⟨by omega, ?_⟩
    rwa [show (a.natAbs : Int) = a by omega] at this
/-- the square of the distance, as a natural number -/
theorem sq_nat (a : Int) : ((a.natAbs * a.natAbs : Nat) : Int) = a * a := Int.natAbs_mul_self
theorem ddir_yes (X Y Z U V W a b c x y z : Int) (D : Nat) (ha : U - X = a) (hb : V - Y = b) (hc : W - Z = c) (hp : In3 100000000000 X Y Z) (hq : In3 100000000000 U V W) (hne : ¬ (X = U ∧ Y = V ∧ Z = W)) (hD : a.natAbs * a.natAbs + b.natAbs * b.natAbs + c.natAbs * c.natAbs = D) (hx : Dir1 D a x) (hy : Dir1 D b y) (hz : Dir1 D c z) (w : World) :
    Calls Try.prog 19 #[.agg #[.int .i64 X, .int .i64 Y, .int .i64 Z], .agg #[.int .i64 U, .int .i64 V, .int .i64 W]] w fun e w' => e = .returned (.tuple #[.agg #[.int .i64 x, .int .i64 y, .int .i64 z], .int .i64 0]) ∧ Below w.heap.size w w' := by
  have hD0 : 0 < D := by
    rcases Nat.eq_zero_or_pos D with g | g
    · rw [g] at hD
      have p : ∀ m : Nat, m * m = 0 → m = 0 := fun m hm => by rcases Nat.mul_eq_zero.1 hm with q | q <;> exact q
      have a0 := p a.natAbs (by omega)
      have b0 := p b.natAbs (by omega)
      have c0 := p c.natAbs (by omega)
      exact absurd ⟨by omega, by omega, by omega⟩ hne
    · exact g
  have key : CallsIn Fence.wide 8 Try.prog 19 #[.agg #[.int .i64 X, .int .i64 Y, .int .i64 Z], .agg #[.int .i64 U, .int .i64 V, .int .i64 W]] w fun e W' => (∃ x y z : Int, e = .returned (.tuple #[.agg #[.int .i64 x, .int .i64 y, .int .i64 z], .int .i64 0]) ∧ PartT D a x ∧ PartT D b y ∧ PartT D c z) ∧ Below w.heap.size w W' := by
    by_cases h1 : X = U
    · subst h1
      by_cases h2 : Y = V
      · subst h2
        have h3 : (Z == W) = false := by rw [beq_eq_false_iff_ne]; exact fun e => hne ⟨rfl, rfl, e⟩
        exact dir_c X Y Z W a b c w ha hb hc hp hq h3 D hD
      · exact dir_b X Y Z V W a b c w ha hb hc hp hq (by rw [beq_eq_false_iff_ne]; exact h2) D hD
    · exact dir_a X Y Z U V W a b c w ha hb hc hp hq (by rw [beq_eq_false_iff_ne]; exact h1) D hD
  refine (callsIn_wide.1 key).mono ?_
  rintro e w' ⟨⟨x', y', z', rfl, p1, p2, p3⟩, hbl⟩
  rw [(p1.dir hD0 (by omega)).uniq hx, (p2.dir hD0 (by omega)).uniq hy, (p3.dir hD0 (by omega)).uniq hz]
  exact ⟨rfl, hbl⟩
end Go.Proofs.Ytodigegjngnknaa
namespace Go.Proofs.Ytodigegjngnknaa
open Go.RowKit GW NL
theorem rpart_x (a x : Int) (A : Option Addr) (c D : Nat) (ha : -200000000000 ≤ a ∧ a ≤ 200000000000) (haD : a.natAbs * a.natAbs ≤ D) (hD0 : 0 < D) (hD : D < 2 ^ 200) (hx : Dir1 D a x) (w : World) (h : SlW w A c (limbs D)) :
    Calls Try.prog 64 #[.int .i64 a, .slice A (limbs D).length c] w fun e w' => e = .returned (.int .i64 x) ∧ Below w.heap.size w w' := by
  have := rpart_any a a.natAbs A c D rfl (by omega) hD w h (not_yes hD0 haD _ (by decide))
  refine this.mono ?_
  rintro e w' ⟨⟨v, rfl, hv⟩, hb⟩
  rw [hv.dir.uniq hx]
  exact ⟨rfl, hb⟩
set_option maxRecDepth 20000 in
set_option maxHeartbeats 2000000 in
theorem rdir_a (X Y Z U V W a b c x y z : Int) (D : Nat) (ha : U - X = a) (hb : V - Y = b) (hc : W - Z = c) (hp : In3 100000000000 X Y Z) (hq : In3 100000000000 U V W) (hne : (X == U) = false) (hD0 : 0 < D) (hD : a.natAbs * a.natAbs + b.natAbs * b.natAbs + c.natAbs * c.natAbs = D) (hx : Dir1 D a x) (hy : Dir1 D b y) (hz : Dir1 D c z) (w : World) :
    Calls Try.prog 28 #[.agg #[.int .i64 X, .int .i64 Y, .int .i64 Z], .agg #[.int .i64 U, .int .i64 V, .int .i64 W]] w fun e w' => e = .returned (.tuple #[.agg #[.int .i64 x, .int .i64 y, .int .i64 z], .int .i64 0]) ∧ Below w.heap.size w w' := by
  refine calls_b fun g => ?_
  obtain ⟨da, db, dc⟩ := hp.diff hq
  rw [ha] at da
  rw [hb] at db
  rw [hc] at dc
  have CP := Lib.hid (fun w => rnear_any X Y Z w)
  rw [decide_eq_true hp] at CP
  have CQ := Lib.hid (fun w => rnear_any U V W w)
  rw [decide_eq_true hq] at CQ
  have CL := Lib.hid (fun w => rless_any U V W X Y Z a b c w ha hb hc (wrap_sm da) (wrap_sm db) (wrap_sm dc))
  obtain ⟨na, hna⟩ : ∃ n, a.natAbs = n := ⟨_, rfl⟩
  obtain ⟨nb', hnb⟩ : ∃ n, b.natAbs = n := ⟨_, rfl⟩
  obtain ⟨nc, hnc⟩ : ∃ n, c.natAbs = n := ⟨_, rfl⟩
  have a38 : na < 2 ^ 38 := by omega
  have b38 : nb' < 2 ^ 38 := by omega
  have c38 : nc < 2 ^ 38 := by omega
  have a76 : na * na < 2 ^ 76 := sq_lt2 a38 a38
  have b76 : nb' * nb' < 2 ^ 76 := sq_lt2 b38 b38
  have c76 : nc * nc < 2 ^ 76 := sq_lt2 c38 c38
  rw [hna, hnb, hnc] at hD
  have C1 := Lib.hid (fun w => rsq_any a na hna (by omega) w)
  have C2 := Lib.hid (fun w => rsq_any b nb' hnb (by omega) w)
  have C3 := Lib.hid (fun w => rsq_any c nc hnc (by omega) w)
  have ln : ∀ {n : Nat}, n < 2 ^ 96 → (limbs n).length ≤ 100000000 := fun h => lim_lt (k := 3) h (by decide)
  have S1 := Lib.hid (fun A1 A2 c1 c2 w h1 h2 => rPlus3_any A1 A2 c1 c2 (na * na) (nb' * nb') w h1 h2 (ln (by omega)) (ln (by omega)))
  have S2 := Lib.hid (fun A1 A2 c1 c2 w h1 h2 => rPlus3_any A1 A2 c1 c2 (na * na + nb' * nb') (nc * nc) w h1 h2 (ln (by omega)) (ln (by omega)))
  rw [hD] at S2
  have hD200 : D < 2 ^ 200 := by omega
  have P1 := Lib.hid (fun A k w h => rpart_x a x A k D da (by rw [hna]; omega) hD0 hD200 hx w h)
  have P2 := Lib.hid (fun A k w h => rpart_x b y A k D db (by rw [hnb]; omega) hD0 hD200 hy w h)
  have P3 := Lib.hid (fun A k w h => rpart_x c z A k D dc (by rw [hnc]; omega) hD0 hD200 hz w h)
  unfold RNat at C1 C2 C3 S1 S2
  generalize hl1 : (limbs (na * na)).length = l1 at *
  generalize hl2 : (limbs (nb' * nb')).length = l2 at *
  generalize hl3 : (limbs (nc * nc)).length = l3 at *
  generalize hl4 : (limbs (na * na + nb' * nb')).length = l4 at *
  generalize hl5 : (limbs D).length = l5 at *
  clear hl1 hl2 hl3 hl4 hl5 ln hD200 a76 b76 c76 a38 b38 c38 hna hnb hnc da db dc hx hy hz hD0 hD ha hb hc hp hq
  go_enter Try.func28, Try.ntmps28
  go_wp2_with (with_reducible refine G.any_mark _ ?_; (try generalize Array.size (World.heap (G.w _)) = bk); (try dsimp only [List.set_cons_zero, List.set_cons_succ]); (try clear g); intro g)
  refine (CP.out _).mono ?_
  rintro e w1 ⟨rfl, hb⟩
  obtain ⟨g1, rfl⟩ := G.call_ex _ hb
  clear hb
  (try clear g)
  revert g1
  intro g
  go_wp2_with (with_reducible refine G.any_mark _ ?_; (try generalize Array.size (World.heap (G.w _)) = bk); (try dsimp only [List.set_cons_zero, List.set_cons_succ]); (try clear g); intro g)
  refine (CQ.out _).mono ?_
  rintro e w1 ⟨rfl, hb⟩
  obtain ⟨g1, rfl⟩ := G.call_ex _ hb
  clear hb
  (try clear g)
  revert g1
  intro g
  go_wp2_with (with_reducible refine G.any_mark _ ?_; (try generalize Array.size (World.heap (G.w _)) = bk); (try dsimp only [List.set_cons_zero, List.set_cons_succ]); (try clear g); intro g)
  refine (CL.out _).mono ?_
  rintro e w1 ⟨rfl, hb⟩
  obtain ⟨g1, rfl⟩ := G.call_ex _ hb
  clear hb
  (try clear g)
  revert g1
  intro g
  go_wp2_with (with_reducible refine G.any_mark _ ?_; (try generalize Array.size (World.heap (G.w _)) = bk); (try dsimp only [List.set_cons_zero, List.set_cons_succ]); (try clear g); intro g)
  all_goals (first | ((try simp only [G.drew_eq, G.drewN_eq]); (refine G.any_mark _ ?_; (try clear g); intro g)) | skip)
  (try dsimp only [List.set_cons_zero, List.set_cons_succ])
  go_region_held3 (G.heldN g [true]) (simp [G.heldN, HeldN, go_sem]) (first
    | (go_at_call 59; first
        | ((with_reducible refine (C1.out _).mono ?_); rintro e w1 ⟨A1, q1, F1, rfl, hs1, hn⟩; obtain ⟨g1, rfl⟩ := G.new_ex _ hn; clear hn C1; (try clear g); revert g1; intro g)
        | ((with_reducible refine (C2.out _).mono ?_); rintro e w1 ⟨A2, q2, F2, rfl, hs2, hn⟩; obtain ⟨g1, rfl⟩ := G.new_ex _ hn; clear hn C2; (try clear g); revert g1; intro g)
        | ((with_reducible refine (C3.out _).mono ?_); rintro e w1 ⟨A3, q3, F3, rfl, hs3, hn⟩; obtain ⟨g1, rfl⟩ := G.new_ex _ hn; clear hn C3; (try clear g); revert g1; intro g))
    | (go_at_call 63; first
        | ((with_reducible refine (S1.out _ _ _ _ _ ?_ ?_).mono ?_); (· exact G.sl _ (by simp) hs1); (· exact G.sl _ (by simp) hs2); rintro e w1 ⟨A4, q4, F4, rfl, hs4, hn⟩; obtain ⟨g1, rfl⟩ := G.new_ex _ hn; clear hn S1; (try clear g); revert g1; intro g)
        | ((with_reducible refine (S2.out _ _ _ _ _ ?_ ?_).mono ?_); (· exact G.sl _ (by simp) hs4); (· exact G.sl _ (by simp) hs3); rintro e w1 ⟨A5, q5, F5, rfl, hs5, hn⟩; obtain ⟨g1, rfl⟩ := G.new_ex _ hn; clear hn S2; (try clear g); revert g1; intro g)))
  all_goals (first | ((try simp only [G.drew_eq, G.drewN_eq]); (refine G.any_mark _ ?_; (try clear g); intro g)) | skip)
  go_wp2_with (with_reducible refine G.any_mark _ ?_; (try generalize Array.size (World.heap (G.w _)) = bk); (try dsimp only [List.set_cons_zero, List.set_cons_succ]); (try clear g); intro g)
  go_region_held3 (G.heldN g [true]) (simp [G.heldN, HeldN, go_sem]) (first
    | (go_at_call 64; first
        | ((with_reducible refine (P1.out _ _ _ ?_).mono ?_); (· exact G.sl _ (by simp) hs5); rintro e w1 ⟨rfl, hb⟩; obtain ⟨g1, rfl⟩ := G.call_ex _ hb; clear hb P1; (try clear g); revert g1; intro g)
        | ((with_reducible refine (P2.out _ _ _ ?_).mono ?_); (· exact G.sl _ (by simp) hs5); rintro e w1 ⟨rfl, hb⟩; obtain ⟨g1, rfl⟩ := G.call_ex _ hb; clear hb P2; (try clear g); revert g1; intro g)
        | ((with_reducible refine (P3.out _ _ _ ?_).mono ?_); (· exact G.sl _ (by simp) hs5); rintro e w1 ⟨rfl, hb⟩; obtain ⟨g1, rfl⟩ := G.call_ex _ hb; clear hb P3; (try clear g); revert g1; intro g)))
  all_goals (first | ((try simp only [G.drew_eq, G.drewN_eq]); (refine G.any_mark _ ?_; (try clear g); intro g)) | skip)
  all_goals go_wp2_with fail
  all_goals exact bodyPost_ret (v := .tuple #[.agg #[.int .i64 x, .int .i64 y, .int .i64 z], .int .i64 0]) (by simp [results, Try.f28, go_sem]) rfl ⟨rfl, G.below _⟩
set_option maxRecDepth 20000 in
set_option maxHeartbeats 2000000 in
theorem rdir_b (X Y Z V W a b c x y z : Int) (D : Nat) (ha : X - X = a) (hb : V - Y = b) (hc : W - Z = c) (hp : In3 100000000000 X Y Z) (hq : In3 100000000000 X V W) (hne : (Y == V) = false) (hD0 : 0 < D) (hD : a.natAbs * a.natAbs + b.natAbs * b.natAbs + c.natAbs * c.natAbs = D) (hx : Dir1 D a x) (hy : Dir1 D b y) (hz : Dir1 D c z) (w : World) :
    Calls Try.prog 28 #[.agg #[.int .i64 X, .int .i64 Y, .int .i64 Z], .agg #[.int .i64 X, .int .i64 V, .int .i64 W]] w fun e w' => e = .returned (.tuple #[.agg #[.int .i64 x, .int .i64 y, .int .i64 z], .int .i64 0]) ∧ Below w.heap.size w w' := by
  refine calls_b fun g => ?_
  obtain ⟨da, db, dc⟩ := hp.diff hq
  rw [ha] at da
  rw [hb] at db
  rw [hc] at dc
  have CP := Lib.hid (fun w => rnear_any X Y Z w)
  rw [decide_eq_true hp] at CP
  have CQ := Lib.hid (fun w => rnear_any X V W w)
  rw [decide_eq_true hq] at CQ
  have CL := Lib.hid (fun w => rless_any X V W X Y Z a b c w ha hb hc (wrap_sm da) (wrap_sm db) (wrap_sm dc))
  obtain ⟨na, hna⟩ : ∃ n, a.natAbs = n := ⟨_, rfl⟩
  obtain ⟨nb', hnb⟩ : ∃ n, b.natAbs = n := ⟨_, rfl⟩
  obtain ⟨nc, hnc⟩ : ∃ n, c.natAbs = n := ⟨_, rfl⟩
  have a38 : na < 2 ^ 38 := by omega
  have b38 : nb' < 2 ^ 38 := by omega
  have c38 : nc < 2 ^ 38 := by omega
  have a76 : na * na < 2 ^ 76 := sq_lt2 a38 a38
  have b76 : nb' * nb' < 2 ^ 76 := sq_lt2 b38 b38
  have c76 : nc * nc < 2 ^ 76 := sq_lt2 c38 c38
  rw [hna, hnb, hnc] at hD
  have C1 := Lib.hid (fun w => rsq_any a na hna (by omega) w)
  have C2 := Lib.hid (fun w => rsq_any b nb' hnb (by omega) w)
  have C3 := Lib.hid (fun w => rsq_any c nc hnc (by omega) w)
  have ln : ∀ {n : Nat}, n < 2 ^ 96 → (limbs n).length ≤ 100000000 := fun h => lim_lt (k := 3) h (by decide)
  have S1 := Lib.hid (fun A1 A2 c1 c2 w h1 h2 => rPlus3_any A1 A2 c1 c2 (na * na) (nb' * nb') w h1 h2 (ln (by omega)) (ln (by omega)))
  have S2 := Lib.hid (fun A1 A2 c1 c2 w h1 h2 => rPlus3_any A1 A2 c1 c2 (na * na + nb' * nb') (nc * nc) w h1 h2 (ln (by omega)) (ln (by omega)))
  rw [hD] at S2
  have hD200 : D < 2 ^ 200 := by omega
  have P1 := Lib.hid (fun A k w h => rpart_x a x A k D da (by rw [hna]; omega) hD0 hD200 hx w h)
  have P2 := Lib.hid (fun A k w h => rpart_x b y A k D db (by rw [hnb]; omega) hD0 hD200 hy w h)
  have P3 := Lib.hid (fun A k w h => rpart_x c z A k D dc (by rw [hnc]; omega) hD0 hD200 hz w h)
  unfold RNat at C1 C2 C3 S1 S2
  generalize hl1 : (limbs (na * na)).length = l1 at *
  generalize hl2 : (limbs (nb' * nb')).length = l2 at *
  generalize hl3 : (limbs (nc * nc)).length = l3 at *
  generalize hl4 : (limbs (na * na + nb' * nb')).length = l4 at *
  generalize hl5 : (limbs D).length = l5 at *
  clear hl1 hl2 hl3 hl4 hl5 ln hD200 a76 b76 c76 a38 b38 c38 hna hnb hnc da db dc hx hy hz hD0 hD ha hb hc hp hq
  go_enter Try.func28, Try.ntmps28
  go_wp2_with (with_reducible refine G.any_mark _ ?_; (try generalize Array.size (World.heap (G.w _)) = bk); (try dsimp only [List.set_cons_zero, List.set_cons_succ]); (try clear g); intro g)
  refine (CP.out _).mono ?_
  rintro e w1 ⟨rfl, hb⟩
  obtain ⟨g1, rfl⟩ := G.call_ex _ hb
  clear hb
  (try clear g)
  revert g1
  intro g
  go_wp2_with (with_reducible refine G.any_mark _ ?_; (try generalize Array.size (World.heap (G.w _)) = bk); (try dsimp only [List.set_cons_zero, List.set_cons_succ]); (try clear g); intro g)
  refine (CQ.out _).mono ?_
  rintro e w1 ⟨rfl, hb⟩
  obtain ⟨g1, rfl⟩ := G.call_ex _ hb
  clear hb
  (try clear g)
  revert g1
  intro g
  go_wp2_with (with_reducible refine G.any_mark _ ?_; (try generalize Array.size (World.heap (G.w _)) = bk); (try dsimp only [List.set_cons_zero, List.set_cons_succ]); (try clear g); intro g)
  refine (CL.out _).mono ?_
  rintro e w1 ⟨rfl, hb⟩
  obtain ⟨g1, rfl⟩ := G.call_ex _ hb
  clear hb
  (try clear g)
  revert g1
  intro g
  go_wp2_with (with_reducible refine G.any_mark _ ?_; (try generalize Array.size (World.heap (G.w _)) = bk); (try dsimp only [List.set_cons_zero, List.set_cons_succ]); (try clear g); intro g)
  all_goals (first | ((try simp only [G.drew_eq, G.drewN_eq]); (refine G.any_mark _ ?_; (try clear g); intro g)) | skip)
  (try dsimp only [List.set_cons_zero, List.set_cons_succ])
  go_region_held3 (G.heldN g [true]) (simp [G.heldN, HeldN, go_sem]) (first
    | (go_at_call 59; first
        | ((with_reducible refine (C1.out _).mono ?_); rintro e w1 ⟨A1, q1, F1, rfl, hs1, hn⟩; obtain ⟨g1, rfl⟩ := G.new_ex _ hn; clear hn C1; (try clear g); revert g1; intro g)
        | ((with_reducible refine (C2.out _).mono ?_); rintro e w1 ⟨A2, q2, F2, rfl, hs2, hn⟩; obtain ⟨g1, rfl⟩ := G.new_ex _ hn; clear hn C2; (try clear g); revert g1; intro g)
        | ((with_reducible refine (C3.out _).mono ?_); rintro e w1 ⟨A3, q3, F3, rfl, hs3, hn⟩; obtain ⟨g1, rfl⟩ := G.new_ex _ hn; clear hn C3; (try clear g); revert g1; intro g))
    | (go_at_call 63; first
        | ((with_reducible refine (S1.out _ _ _ _ _ ?_ ?_).mono ?_); (· exact G.sl _ (by simp) hs1); (· exact G.sl _ (by simp) hs2); rintro e w1 ⟨A4, q4, F4, rfl, hs4, hn⟩; obtain ⟨g1, rfl⟩ := G.new_ex _ hn; clear hn S1; (try clear g); revert g1; intro g)
        | ((with_reducible refine (S2.out _ _ _ _ _ ?_ ?_).mono ?_); (· exact G.sl _ (by simp) hs4); (· exact G.sl _ (by simp) hs3); rintro e w1 ⟨A5, q5, F5, rfl, hs5, hn⟩; obtain ⟨g1, rfl⟩ := G.new_ex _ hn; clear hn S2; (try clear g); revert g1; intro g)))
  all_goals (first | ((try simp only [G.drew_eq, G.drewN_eq]); (refine G.any_mark _ ?_; (try clear g); intro g)) | skip)
  go_wp2_with (with_reducible refine G.any_mark _ ?_; (try generalize Array.size (World.heap (G.w _)) = bk); (try dsimp only [List.set_cons_zero, List.set_cons_succ]); (try clear g); intro g)
  go_region_held3 (G.heldN g [true]) (simp [G.heldN, HeldN, go_sem]) (first
    | (go_at_call 64; first
        | ((with_reducible refine (P1.out _ _ _ ?_).mono ?_); (· exact G.sl _ (by simp) hs5); rintro e w1 ⟨rfl, hb⟩; obtain ⟨g1, rfl⟩ := G.call_ex _ hb; clear hb P1; (try clear g); revert g1; intro g)
        | ((with_reducible refine (P2.out _ _ _ ?_).mono ?_); (· exact G.sl _ (by simp) hs5); rintro e w1 ⟨rfl, hb⟩; obtain ⟨g1, rfl⟩ := G.call_ex _ hb; clear hb P2; (try clear g); revert g1; intro g)
        | ((with_reducible refine (P3.out _ _ _ ?_).mono ?_); (· exact G.sl _ (by simp) hs5); rintro e w1 ⟨rfl, hb⟩; obtain ⟨g1, rfl⟩ := G.call_ex _ hb; clear hb P3; (try clear g); revert g1; intro g)))
  all_goals (first | ((try simp only [G.drew_eq, G.drewN_eq]); (refine G.any_mark _ ?_; (try clear g); intro g)) | skip)
  all_goals go_wp2_with fail
  all_goals exact bodyPost_ret (v := .tuple #[.agg #[.int .i64 x, .int .i64 y, .int .i64 z], .int .i64 0]) (by simp [results, Try.f28, go_sem]) rfl ⟨rfl, G.below _⟩
set_option maxRecDepth 20000 in
set_option maxHeartbeats 2000000 in
theorem rdir_c (X Y Z W a b c x y z : Int) (D : Nat) (ha : X - X = a) (hb : Y - Y = b) (hc : W - Z = c) (hp : In3 100000000000 X Y Z) (hq : In3 100000000000 X Y W) (hne : (Z == W) = false) (hD0 : 0 < D) (hD : a.natAbs * a.natAbs + b.natAbs * b.natAbs + c.natAbs * c.natAbs = D) (hx : Dir1 D a x) (hy : Dir1 D b y) (hz : Dir1 D c z) (w : World) :
    Calls Try.prog 28 #[.agg #[.int .i64 X, .int .i64 Y, .int .i64 Z], .agg #[.int .i64 X, .int .i64 Y, .int .i64 W]] w fun e w' => e = .returned (.tuple #[.agg #[.int .i64 x, .int .i64 y, .int .i64 z], .int .i64 0]) ∧ Below w.heap.size w w' := by
  refine calls_b fun g => ?_
  obtain ⟨da, db, dc⟩ := hp.diff hq
  rw [ha] at da
  rw [hb] at db
  rw [hc] at dc
  have CP := Lib.hid (fun w => rnear_any X Y Z w)
  rw [decide_eq_true hp] at CP
  have CQ := Lib.hid (fun w => rnear_any X Y W w)
  rw [decide_eq_true hq] at CQ
  have CL := Lib.hid (fun w => rless_any X Y W X Y Z a b c w ha hb hc (wrap_sm da) (wrap_sm db) (wrap_sm dc))
  obtain ⟨na, hna⟩ : ∃ n, a.natAbs = n := ⟨_, rfl⟩
  obtain ⟨nb', hnb⟩ : ∃ n, b.natAbs = n := ⟨_, rfl⟩
  obtain ⟨nc, hnc⟩ : ∃ n, c.natAbs = n := ⟨_, rfl⟩
  have a38 : na < 2 ^ 38 := by omega
  have b38 : nb' < 2 ^ 38 := by omega
  have c38 : nc < 2 ^ 38 := by omega
  have a76 : na * na < 2 ^ 76 := sq_lt2 a38 a38
  have b76 : nb' * nb' < 2 ^ 76 := sq_lt2 b38 b38
  have c76 : nc * nc < 2 ^ 76 := sq_lt2 c38 c38
  rw [hna, hnb, hnc] at hD
  have C1 := Lib.hid (fun w => rsq_any a na hna (by omega) w)
  have C2 := Lib.hid (fun w => rsq_any b nb' hnb (by omega) w)
  have C3 := Lib.hid (fun w => rsq_any c nc hnc (by omega) w)
  have ln : ∀ {n : Nat}, n < 2 ^ 96 → (limbs n).length ≤ 100000000 := fun h => lim_lt (k := 3) h (by decide)
  have S1 := Lib.hid (fun A1 A2 c1 c2 w h1 h2 => rPlus3_any A1 A2 c1 c2 (na * na) (nb' * nb') w h1 h2 (ln (by omega)) (ln (by omega)))
  have S2 := Lib.hid (fun A1 A2 c1 c2 w h1 h2 => rPlus3_any A1 A2 c1 c2 (na * na + nb' * nb') (nc * nc) w h1 h2 (ln (by omega)) (ln (by omega)))
  rw [hD] at S2
  have hD200 : D < 2 ^ 200 := by omega
  have P1 := Lib.hid (fun A k w h => rpart_x a x A k D da (by rw [hna]; omega) hD0 hD200 hx w h)
  have P2 := Lib.hid (fun A k w h => rpart_x b y A k D db (by rw [hnb]; omega) hD0 hD200 hy w h)
  have P3 := Lib.hid (fun A k w h => rpart_x c z A k D dc (by rw [hnc]; omega) hD0 hD200 hz w h)
  unfold RNat at C1 C2 C3 S1 S2
  generalize hl1 : (limbs (na * na)).length = l1 at *
  generalize hl2 : (limbs (nb' * nb')).length = l2 at *
  generalize hl3 : (limbs (nc * nc)).length = l3 at *
  generalize hl4 : (limbs (na * na + nb' * nb')).length = l4 at *
  generalize hl5 : (limbs D).length = l5 at *
  clear hl1 hl2 hl3 hl4 hl5 ln hD200 a76 b76 c76 a38 b38 c38 hna hnb hnc da db dc hx hy hz hD0 hD ha hb hc hp hq
  go_enter Try.func28, Try.ntmps28
  go_wp2_with (with_reducible refine G.any_mark _ ?_; (try generalize Array.size (World.heap (G.w _)) = bk); (try dsimp only [List.set_cons_zero, List.set_cons_succ]); (try clear g); intro g)
  refine (CP.out _).mono ?_
  rintro e w1 ⟨rfl, hb⟩
  obtain ⟨g1, rfl⟩ := G.call_ex _ hb
  clear hb
  (try clear g)
  revert g1
  intro g
  go_wp2_with (with_reducible refine G.any_mark _ ?_; (try generalize Array.size (World.heap (G.w _)) = bk); (try dsimp only [List.set_cons_zero, List.set_cons_succ]); (try clear g); intro g)
  refine (CQ.out _).mono ?_
  rintro e w1 ⟨rfl, hb⟩
  obtain ⟨g1, rfl⟩ := G.call_ex _ hb
  clear hb
  (try clear g)
  revert g1
  intro g
  go_wp2_with (with_reducible refine G.any_mark _ ?_; (try generalize Array.size (World.heap (G.w _)) = bk); (try dsimp only [List.set_cons_zero, List.set_cons_succ]); (try clear g); intro g)
  refine (CL.out _).mono ?_
  rintro e w1 ⟨rfl, hb⟩
  obtain ⟨g1, rfl⟩ := G.call_ex _ hb
  clear hb
  (try clear g)
  revert g1
  intro g
  go_wp2_with (with_reducible refine G.any_mark _ ?_; (try generalize Array.size (World.heap (G.w _)) = bk); (try dsimp only [List.set_cons_zero, List.set_cons_succ]); (try clear g); intro g)
  all_goals (first | ((try simp only [G.drew_eq, G.drewN_eq]); (refine G.any_mark _ ?_; (try clear g); intro g)) | skip)
  (try dsimp only [List.set_cons_zero, List.set_cons_succ])
  go_region_held3 (G.heldN g [true]) (simp [G.heldN, HeldN, go_sem]) (first
    | (go_at_call 59; first
        | ((with_reducible refine (C1.out _).mono ?_); rintro e w1 ⟨A1, q1, F1, rfl, hs1, hn⟩; obtain ⟨g1, rfl⟩ := G.new_ex _ hn; clear hn C1; (try clear g); revert g1; intro g)
        | ((with_reducible refine (C2.out _).mono ?_); rintro e w1 ⟨A2, q2, F2, rfl, hs2, hn⟩; obtain ⟨g1, rfl⟩ := G.new_ex _ hn; clear hn C2; (try clear g); revert g1; intro g)
        | ((with_reducible refine (C3.out _).mono ?_); rintro e w1 ⟨A3, q3, F3, rfl, hs3, hn⟩; obtain ⟨g1, rfl⟩ := G.new_ex _ hn; clear hn C3; (try clear g); revert g1; intro g))
    | (go_at_call 63; first
        | ((with_reducible refine (S1.out _ _ _ _ _ ?_ ?_).mono ?_); (· exact G.sl _ (by simp) hs1); (· exact G.sl _ (by simp) hs2); rintro e w1 ⟨A4, q4, F4, rfl, hs4, hn⟩; obtain ⟨g1, rfl⟩ := G.new_ex _ hn; clear hn S1; (try clear g); revert g1; intro g)
        | ((with_reducible refine (S2.out _ _ _ _ _ ?_ ?_).mono ?_); (· exact G.sl _ (by simp) hs4); (· exact G.sl _ (by simp) hs3); rintro e w1 ⟨A5, q5, F5, rfl, hs5, hn⟩; obtain ⟨g1, rfl⟩ := G.new_ex _ hn; clear hn S2; (try clear g); revert g1; intro g)))
  all_goals (first | ((try simp only [G.drew_eq, G.drewN_eq]); (refine G.any_mark _ ?_; (try clear g); intro g)) | skip)
  go_wp2_with (with_reducible refine G.any_mark _ ?_; (try generalize Array.size (World.heap (G.w _)) = bk); (try dsimp only [List.set_cons_zero, List.set_cons_succ]); (try clear g); intro g)
  go_region_held3 (G.heldN g [true]) (simp [G.heldN, HeldN, go_sem]) (first
    | (go_at_call 64; first
        | ((with_reducible refine (P1.out _ _ _ ?_).mono ?_); (· exact G.sl _ (by simp) hs5); rintro e w1 ⟨rfl, hb⟩; obtain ⟨g1, rfl⟩ := G.call_ex _ hb; clear hb P1; (try clear g); revert g1; intro g)
        | ((with_reducible refine (P2.out _ _ _ ?_).mono ?_); (· exact G.sl _ (by simp) hs5); rintro e w1 ⟨rfl, hb⟩; obtain ⟨g1, rfl⟩ := G.call_ex _ hb; clear hb P2; (try clear g); revert g1; intro g)
        | ((with_reducible refine (P3.out _ _ _ ?_).mono ?_); (· exact G.sl _ (by simp) hs5); rintro e w1 ⟨rfl, hb⟩; obtain ⟨g1, rfl⟩ := G.call_ex _ hb; clear hb P3; (try clear g); revert g1; intro g)))
  all_goals (first | ((try simp only [G.drew_eq, G.drewN_eq]); (refine G.any_mark _ ?_; (try clear g); intro g)) | skip)
  all_goals go_wp2_with fail
  all_goals exact bodyPost_ret (v := .tuple #[.agg #[.int .i64 x, .int .i64 y, .int .i64 z], .int .i64 0]) (by simp [results, Try.f28, go_sem]) rfl ⟨rfl, G.below _⟩
end Go.Proofs.Ytodigegjngnknaa
namespace Go.Proofs.Ytodigegjngnknaa
open Go.RowKit GW NL
theorem rdir_yes (X Y Z U V W a b c x y z : Int) (D : Nat) (ha : U - X = a) (hb : V - Y = b) (hc : W - Z = c) (hp : In3 100000000000 X Y Z) (hq : In3 100000000000 U V W) (hne : ¬ (X = U ∧ Y = V ∧ Z = W)) (hD : a.natAbs * a.natAbs + b.natAbs * b.natAbs + c.natAbs * c.natAbs = D) (hD0 : 0 < D) (hx : Dir1 D a x) (hy : Dir1 D b y) (hz : Dir1 D c z) (w : World) :
    Calls Try.prog 28 #[.agg #[.int .i64 X, .int .i64 Y, .int .i64 Z], .agg #[.int .i64 U, .int .i64 V, .int .i64 W]] w fun e w' => e = .returned (.tuple #[.agg #[.int .i64 x, .int .i64 y, .int .i64 z], .int .i64 0]) ∧ Below w.heap.size w w' := by
  by_cases h1 : X = U
  · subst h1
    by_cases h2 : Y = V
    · subst h2
      have h3 : (Z == W) = false := by rw [beq_eq_false_iff_ne]; exact fun e => hne ⟨rfl, rfl, e⟩
      exact rdir_c X Y Z W a b c x y z D ha hb hc hp hq h3 hD0 hD hx hy hz w
    · exact rdir_b X Y Z V W a b c x y z D ha hb hc hp hq (by rw [beq_eq_false_iff_ne]; exact h2) hD0 hD hx hy hz w
  · exact rdir_a X Y Z U V W a b c x y z D ha hb hc hp hq (by rw [beq_eq_false_iff_ne]; exact h1) hD0 hD hx hy hz w
theorem D_pos {X Y Z U V W a b c : Int} {D : Nat} (ha : U - X = a) (hb : V - Y = b) (hc : W - Z = c) (hne : ¬ (X = U ∧ Y = V ∧ Z = W)) (hD : a.natAbs * a.natAbs + b.natAbs * b.natAbs + c.natAbs * c.natAbs = D) : 0 < D := by
  rcases Nat.eq_zero_or_pos D with g | g
  · rw [g] at hD
    have p : ∀ m : Nat, m * m = 0 → m = 0 := fun m hm => by rcases Nat.mul_eq_zero.1 hm with q | q <;> exact q
    have a0 := p a.natAbs (by omega)
    have b0 := p b.natAbs (by omega)
    have c0 := p c.natAbs (by omega)
    exact absurd ⟨by omega, by omega, by omega⟩ hne
  · exact g
set_option maxRecDepth 20000 in
theorem ddir_no_in (X Y Z U V W : Int) (h : ¬ (In3 100000000000 X Y Z ∧ In3 100000000000 U V W)) (w : World) :
    CallsIn Fence.wide 8 Try.prog 19 #[.agg #[.int .i64 X, .int .i64 Y, .int .i64 Z], .agg #[.int .i64 U, .int .i64 V, .int .i64 W]] w fun e w' => e = .returned (.tuple #[.agg #[.int .i64 0, .int .i64 0, .int .i64 0], .int .i64 2]) ∧ Below w.heap.size w w' := by
  have CN := Lib.hid (fun s w h0 h1 h2 h3 h4 h5 => near2_any s X Y Z U V W w h0 h1 h2 h3 h4 h5)
  have e : (decide (In3 100000000000 X Y Z) && decide (In3 100000000000 U V W)) = false := by
    rw [← Bool.decide_and]
    exact decide_eq_false h
  rw [e, show nearE false = 2 from rfl] at CN
  clear h e
  suffices hg : ∀ g : G w [] [] [heapOf w], CallsIn Fence.wide 8 Try.prog 19 #[.agg #[.int .i64 X, .int .i64 Y, .int .i64 Z], .agg #[.int .i64 U, .int .i64 V, .int .i64 W]] g.w fun e w' => e = .returned (.tuple #[.agg #[.int .i64 0, .int .i64 0, .int .i64 0], .int .i64 2]) ∧ Below w.heap.size w w' from hg (G.begin w)
  intro g
  refine callsIn_of_wp_marks Try.func19 rfl trivial ?_ rfl
  simp only [Try.ntmps19, List.size_toArray, List.length_cons, List.length_nil, Nat.reduceAdd, Nat.reduceSub, Array.replicate_succ, Array.replicate_zero, List.push_toArray, List.append_toArray, List.nil_append, List.cons_append]
  gi_wp2_with (first | (with_reducible refine G.any_mark _ ?_; (try generalize Array.size (World.heap (G.w _)) = bk); (try dsimp only [List.set_cons_zero, List.set_cons_succ]); (try clear g); intro g) | (refine ⟨trivial, ?_⟩; gi_at_call 34; refine (callsIn_wide.2 (CN.out _ _ (by go_simp) (by go_simp) (by go_simp) (by go_simp) (by go_simp) (by go_simp))).mono ?_; rintro e w' ⟨rfl, hb⟩; obtain ⟨g1, rfl⟩ := G.call_ex _ hb; clear hb; (try clear g); revert g1; intro g))
  exact ⟨.tuple #[.agg #[.int .i64 0, .int .i64 0, .int .i64 0], .int .i64 2], by simp [results, Try.f19, go_sem], rfl, G.below _⟩
theorem ddir_no (X Y Z U V W : Int) (h : ¬ (In3 100000000000 X Y Z ∧ In3 100000000000 U V W)) (w : World) :
    Calls Try.prog 19 #[.agg #[.int .i64 X, .int .i64 Y, .int .i64 Z], .agg #[.int .i64 U, .int .i64 V, .int .i64 W]] w fun e w' => e = .returned (.tuple #[.agg #[.int .i64 0, .int .i64 0, .int .i64 0], .int .i64 2]) ∧ Below w.heap.size w w' := callsIn_wide.1 (ddir_no_in X Y Z U V W h w)
set_option maxRecDepth 20000 in
theorem ddir_eq_in (X Y Z : Int) (hp : In3 100000000000 X Y Z) (w : World) :
    CallsIn Fence.wide 8 Try.prog 19 #[.agg #[.int .i64 X, .int .i64 Y, .int .i64 Z], .agg #[.int .i64 X, .int .i64 Y, .int .i64 Z]] w fun e w' => e = .returned (.tuple #[.agg #[.int .i64 0, .int .i64 0, .int .i64 0], .int .i64 6]) ∧ Below w.heap.size w w' := by
  have CN := Lib.hid (fun s w h0 h1 h2 h3 h4 h5 => near2_any s X Y Z X Y Z w h0 h1 h2 h3 h4 h5)
  rw [decide_eq_true hp] at CN
  rw [show nearE (true && true) = 0 from rfl] at CN
  clear hp
  suffices hg : ∀ g : G w [] [] [heapOf w], CallsIn Fence.wide 8 Try.prog 19 #[.agg #[.int .i64 X, .int .i64 Y, .int .i64 Z], .agg #[.int .i64 X, .int .i64 Y, .int .i64 Z]] g.w fun e w' => e = .returned (.tuple #[.agg #[.int .i64 0, .int .i64 0, .int .i64 0], .int .i64 6]) ∧ Below w.heap.size w w' from hg (G.begin w)
  intro g
  refine callsIn_of_wp_marks Try.func19 rfl trivial ?_ rfl
  simp only [Try.ntmps19, List.size_toArray, List.length_cons, List.length_nil, Nat.reduceAdd, Nat.reduceSub, Array.replicate_succ, Array.replicate_zero, List.push_toArray, List.append_toArray, List.nil_append, List.cons_append]
  gi_wp2_with (first | (with_reducible refine G.any_mark _ ?_; (try generalize Array.size (World.heap (G.w _)) = bk); (try dsimp only [List.set_cons_zero, List.set_cons_succ]); (try clear g); intro g) | (refine ⟨trivial, ?_⟩; gi_at_call 34; refine (callsIn_wide.2 (CN.out _ _ (by go_simp) (by go_simp) (by go_simp) (by go_simp) (by go_simp) (by go_simp))).mono ?_; rintro e w' ⟨rfl, hb⟩; obtain ⟨g1, rfl⟩ := G.call_ex _ hb; clear hb; (try clear g); revert g1; intro g))
  exact ⟨.tuple #[.agg #[.int .i64 0, .int .i64 0, .int .i64 0], .int .i64 6], by simp [results, Try.f19, go_sem], rfl, G.below _⟩
theorem ddir_eq (X Y Z : Int) (hp : In3 100000000000 X Y Z) (w : World) :
    Calls Try.prog 19 #[.agg #[.int .i64 X, .int .i64 Y, .int .i64 Z], .agg #[.int .i64 X, .int .i64 Y, .int .i64 Z]] w fun e w' => e = .returned (.tuple #[.agg #[.int .i64 0, .int .i64 0, .int .i64 0], .int .i64 6]) ∧ Below w.heap.size w w' := callsIn_wide.1 (ddir_eq_in X Y Z hp w)
set_option maxRecDepth 20000 in
theorem rdir_no (X Y Z U V W : Int) (h : ¬ (In3 100000000000 X Y Z ∧ In3 100000000000 U V W)) (w : World) :
    Calls Try.prog 28 #[.agg #[.int .i64 X, .int .i64 Y, .int .i64 Z], .agg #[.int .i64 U, .int .i64 V, .int .i64 W]] w fun e w' => e = .returned (.tuple #[.agg #[.int .i64 0, .int .i64 0, .int .i64 0], .int .i64 2]) ∧ Below w.heap.size w w' := by
  refine calls_b fun g => ?_
  have CP := Lib.hid (fun w => rnear_any X Y Z w)
  have CQ := Lib.hid (fun w => rnear_any U V W w)
  by_cases hp : In3 100000000000 X Y Z
  · have hq : ¬ In3 100000000000 U V W := fun hq => h ⟨hp, hq⟩
    rw [decide_eq_true hp] at CP
    rw [decide_eq_false hq] at CQ
    clear h hp hq
    go_enter Try.func28, Try.ntmps28
    go_wp2_with (with_reducible refine G.any_mark _ ?_; (try generalize Array.size (World.heap (G.w _)) = bk); (try dsimp only [List.set_cons_zero, List.set_cons_succ]); (try clear g); intro g)
    refine (CP.out _).mono ?_
    rintro e w1 ⟨rfl, hb⟩
    obtain ⟨g1, rfl⟩ := G.call_ex _ hb
    clear hb
    (try clear g)
    revert g1
    intro g
    go_wp2_with (with_reducible refine G.any_mark _ ?_; (try generalize Array.size (World.heap (G.w _)) = bk); (try dsimp only [List.set_cons_zero, List.set_cons_succ]); (try clear g); intro g)
    refine (CQ.out _).mono ?_
    rintro e w1 ⟨rfl, hb⟩
    obtain ⟨g1, rfl⟩ := G.call_ex _ hb
    clear hb
    (try clear g)
    revert g1
    intro g
    go_wp2_with (with_reducible refine G.any_mark _ ?_; (try generalize Array.size (World.heap (G.w _)) = bk); (try dsimp only [List.set_cons_zero, List.set_cons_succ]); (try clear g); intro g)
    exact bodyPost_ret (v := .tuple #[.agg #[.int .i64 0, .int .i64 0, .int .i64 0], .int .i64 2]) (by simp [results, Try.f28, go_sem]) rfl ⟨rfl, G.below _⟩
  · rw [decide_eq_false hp] at CP
    clear h hp
    go_enter Try.func28, Try.ntmps28
    go_wp2_with (with_reducible refine G.any_mark _ ?_; (try generalize Array.size (World.heap (G.w _)) = bk); (try dsimp only [List.set_cons_zero, List.set_cons_succ]); (try clear g); intro g)
    refine (CP.out _).mono ?_
    rintro e w1 ⟨rfl, hb⟩
    obtain ⟨g1, rfl⟩ := G.call_ex _ hb
    clear hb
    (try clear g)
    revert g1
    intro g
    go_wp2_with (with_reducible refine G.any_mark _ ?_; (try generalize Array.size (World.heap (G.w _)) = bk); (try dsimp only [List.set_cons_zero, List.set_cons_succ]); (try clear g); intro g)
    exact bodyPost_ret (v := .tuple #[.agg #[.int .i64 0, .int .i64 0, .int .i64 0], .int .i64 2]) (by simp [results, Try.f28, go_sem]) rfl ⟨rfl, G.below _⟩
set_option maxRecDepth 20000 in
theorem rdir_eq (X Y Z : Int) (hp : In3 100000000000 X Y Z) (w : World) :
    Calls Try.prog 28 #[.agg #[.int .i64 X, .int .i64 Y, .int .i64 Z], .agg #[.int .i64 X, .int .i64 Y, .int .i64 Z]] w fun e w' => e = .returned (.tuple #[.agg #[.int .i64 0, .int .i64 0, .int .i64 0], .int .i64 6]) ∧ Below w.heap.size w w' := by
  refine calls_b fun g => ?_
  have CP := Lib.hid (fun w => rnear_any X Y Z w)
  rw [decide_eq_true hp] at CP
  clear hp
  go_enter Try.func28, Try.ntmps28
  go_wp2_with (with_reducible refine G.any_mark _ ?_; (try generalize Array.size (World.heap (G.w _)) = bk); (try dsimp only [List.set_cons_zero, List.set_cons_succ]); (try clear g); intro g)
  refine (CP.out _).mono ?_
  rintro e w1 ⟨rfl, hb⟩
  obtain ⟨g1, rfl⟩ := G.call_ex _ hb
  clear hb
  (try clear g)
  revert g1
  intro g
  go_wp2_with (with_reducible refine G.any_mark _ ?_; (try generalize Array.size (World.heap (G.w _)) = bk); (try dsimp only [List.set_cons_zero, List.set_cons_succ]); (try clear g); intro g)
  refine (CP.out _).mono ?_
  rintro e w1 ⟨rfl, hb⟩
  obtain ⟨g1, rfl⟩ := G.call_ex _ hb
  clear hb
  (try clear g)
  revert g1
  intro g
  go_wp2_with (with_reducible refine G.any_mark _ ?_; (try generalize Array.size (World.heap (G.w _)) = bk); (try dsimp only [List.set_cons_zero, List.set_cons_succ]); (try clear g); intro g)
  exact bodyPost_ret (v := .tuple #[.agg #[.int .i64 0, .int .i64 0, .int .i64 0], .int .i64 6]) (by simp [results, Try.f28, go_sem]) rfl ⟨rfl, G.below _⟩
end Go.Proofs.Ytodigegjngnknaa
namespace Go.Proofs.Ytodigegjngnknaa
open Go.RowKit GW NL Go.Proofs.Ytodigegjngnknaa.X
theorem is_ok (n : Int) (w : World) : Calls Try.prog 31 #[.int .i64 n, .int .i64 0, .int .i64 n] w fun e w' => e = .returned (.bool true) ∧ Below w.heap.size w w' := by
  refine calls_g fun g => ?_
  go_enter Try.func31, Try.ntmps31
  go_wp2_with (with_reducible refine G.any_mark _ ?_; (try generalize Array.size (World.heap (G.w _)) = bk); (try dsimp only [List.set_cons_zero, List.set_cons_succ]); (try clear g); intro g)
  go_ret
  exact ⟨by simp, G.below _⟩
theorem bad_ok (x : Int) (w : World) : Calls Try.prog 32 #[.int .i64 0, .int .i64 x, .int .i64 x] w fun e w' => e = .returned (.bool true) ∧ Below w.heap.size w w' := by
  refine calls_g fun g => ?_
  go_enter Try.func32, Try.ntmps32
  go_wp2_with (with_reducible refine G.any_mark _ ?_; (try generalize Array.size (World.heap (G.w _)) = bk); (try dsimp only [List.set_cons_zero, List.set_cons_succ]); (try clear g); intro g)
  go_ret
  exact ⟨by simp, G.below _⟩
theorem point_ok (x y z : Int) (w : World) : Calls Try.prog 33 #[.agg #[.int .i64 x, .int .i64 y, .int .i64 z], .int .i64 0, .int .i64 x, .int .i64 y, .int .i64 z] w fun e w' => e = .returned (.bool true) ∧ Below w.heap.size w w' := by
  refine calls_g fun g => ?_
  go_enter Try.func33, Try.ntmps33
  go_wp2_with (with_reducible refine G.any_mark _ ?_; (try generalize Array.size (World.heap (G.w _)) = bk); (try dsimp only [List.set_cons_zero, List.set_cons_succ]); (try clear g); intro g)
  go_ret
  exact ⟨by simp, G.below _⟩
theorem in3_lit {m X Y Z : Int} (h : decide (-m ≤ X ∧ X ≤ m ∧ -m ≤ Y ∧ Y ≤ m ∧ -m ≤ Z ∧ Z ≤ m) = true) : In3 m X Y Z := by
  have := of_decide_eq_true h
  unfold In3 In; omega
theorem curve_lit : curveX 20000000000 100000 = (1, 0) := by
  have e : curveN 20000000000 100000 = 1 := by unfold curveN; decide +kernel
  unfold curveX
  rw [if_pos (by unfold Way; decide), e]
  decide
theorem dir_lit1 : Dir1 25 3 644245094 := ⟨644245094, by decide, by unfold Top Yes; decide +kernel⟩
theorem dir_lit2 : Dir1 25 4 858993459 := ⟨858993459, by decide, by unfold Top Yes; decide +kernel⟩
theorem dir_lit3 : Dir1 25 0 0 := ⟨0, by decide, by unfold Top Yes; decide +kernel⟩
set_option maxRecDepth 20000 in
theorem lives_ok (w : World) : Calls Try.prog 12 #[] w fun e w' => e = .returned (.bool true) ∧ Below w.heap.size w w' := by
  refine calls_b fun g => ?_
  have C1 := Lib.hid (fun w => drange_yes 0 0 0 3 4 12 3 4 12 169 13 (by decide) (by decide) (by decide) (by decide) ⟨by decide, by decide, by decide, by decide⟩ (in3_lit (by decide)) (in3_lit (by decide)) w)
  have C2 := Lib.hid (fun w => ddir_yes 0 0 0 3 4 0 3 4 0 644245094 858993459 0 25 (by decide) (by decide) (by decide) (in3_lit (by decide)) (in3_lit (by decide)) (by decide) (by decide) dir_lit1 dir_lit2 dir_lit3 w)
  have C3 := Lib.hid (fun w => dcurve_any 20000000000 100000 w)
  rw [curve_lit] at C3
  have C4 := Lib.hid (fun w => is_ok 13 w)
  have C5 := Lib.hid (fun w => point_ok 644245094 858993459 0 w)
  have C6 := Lib.hid (fun w => is_ok 1 w)
  go_enter Try.func12, Try.ntmps12
  go_wp2_with (with_reducible refine G.any_mark _ ?_; (try generalize Array.size (World.heap (G.w _)) = bk); (try dsimp only [List.set_cons_zero, List.set_cons_succ]); (try clear g); intro g)
  refine (C1.out _).mono ?_
  rintro e w1 ⟨rfl, hb⟩
  obtain ⟨g1, rfl⟩ := G.call_ex _ hb
  clear hb
  (try clear g)
  revert g1
  intro g
  go_wp2_with (with_reducible refine G.any_mark _ ?_; (try generalize Array.size (World.heap (G.w _)) = bk); (try dsimp only [List.set_cons_zero, List.set_cons_succ]); (try clear g); intro g)
  refine (C2.out _).mono ?_
  rintro e w1 ⟨rfl, hb⟩
  obtain ⟨g1, rfl⟩ := G.call_ex _ hb
  clear hb
  (try clear g)
  revert g1
  intro g
  go_wp2_with (with_reducible refine G.any_mark _ ?_; (try generalize Array.size (World.heap (G.w _)) = bk); (try dsimp only [List.set_cons_zero, List.set_cons_succ]); (try clear g); intro g)
  refine (C3.out _).mono ?_
  rintro e w1 ⟨rfl, hb⟩
  obtain ⟨g1, rfl⟩ := G.call_ex _ hb
  clear hb
  (try clear g)
  revert g1
  intro g
  go_wp2_with (with_reducible refine G.any_mark _ ?_; (try generalize Array.size (World.heap (G.w _)) = bk); (try dsimp only [List.set_cons_zero, List.set_cons_succ]); (try clear g); intro g)
  refine (C4.out _).mono ?_
  rintro e w1 ⟨rfl, hb⟩
  obtain ⟨g1, rfl⟩ := G.call_ex _ hb
  clear hb
  (try clear g)
  revert g1
  intro g
  go_wp2_with (with_reducible refine G.any_mark _ ?_; (try generalize Array.size (World.heap (G.w _)) = bk); (try dsimp only [List.set_cons_zero, List.set_cons_succ]); (try clear g); intro g)
  refine (C5.out _).mono ?_
  rintro e w1 ⟨rfl, hb⟩
  obtain ⟨g1, rfl⟩ := G.call_ex _ hb
  clear hb
  (try clear g)
  revert g1
  intro g
  go_wp2_with (with_reducible refine G.any_mark _ ?_; (try generalize Array.size (World.heap (G.w _)) = bk); (try dsimp only [List.set_cons_zero, List.set_cons_succ]); (try clear g); intro g)
  refine (C6.out _).mono ?_
  rintro e w1 ⟨rfl, hb⟩
  obtain ⟨g1, rfl⟩ := G.call_ex _ hb
  clear hb
  (try clear g)
  revert g1
  intro g
  go_wp2_with (with_reducible refine G.any_mark _ ?_; (try generalize Array.size (World.heap (G.w _)) = bk); (try dsimp only [List.set_cons_zero, List.set_cons_succ]); (try clear g); intro g)
  go_ret
  exact ⟨rfl, G.below _⟩
end Go.Proofs.Ytodigegjngnknaa
