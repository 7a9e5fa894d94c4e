/- Plain facts and contracts of functions of the program, out of walks. Their conditions stand ahead of each. -/
import Derived.Test.YtodigegjngnknaaDe1
import Derived.Test.YtodigegjngnknaaDe37
import Derived.Test.YtodigegjngnknaaDe41
import Derived.Test.YtodigegjngnknaaDe42
import Derived.Below
import Derived.BigQuiet
import Derived.Deep.DeepCutAuto
import Derived.Deep.Draws
import Derived.Deep.LoopGhost
import Derived.Deep.QuietTactic
import Derived.Deep.RegionHeld3
import Derived.Deep.WholeRow
import Derived.Defers
import Derived.Great.BuildSlice
import Derived.Laws.Bits128
import Derived.Laws.BitsLemmas
import Derived.Laws.BytesString
import Derived.Laws.Cells
import Derived.Laws.CopyOwn
import Derived.Laws.Externs
import Derived.Laws.IdiomStrings
import Derived.Laws.NewBlocks
import Derived.Laws.OwnMore
import Derived.Laws.Pointers
import Derived.Laws.Rows
import Derived.Lib.BitFns
import Derived.Lib.Hide
import Derived.Lib.ItoaNum
import Derived.Lib.MinMax
import Derived.LoopIn
import Derived.LoopNIn
import Derived.Maps.AppendAt
import Derived.OrdersIn
import Derived.OwnWalk
import Derived.OwnWalkIn
import Derived.RangeFuncBound
import Derived.RangeFuncBox
import Derived.RangeFuncCalls
import Derived.RangeFuncLeaves
import Derived.RangeFuncNested
import Derived.RowKit3
import Derived.Shelf.Abstract
import Derived.Shelf.RegionOpen
import Derived.StillTactics
import Derived.StillTailTactics
import Derived.TacticsInMore
import Derived.Test.YtodigegjngnknaaProg
import Derived.WalkKit
import Derived.WalkLawsBesides
import Derived.WalkMore
import Derived.WalkSpells
set_option linter.unusedVariables false
set_option linter.unusedSimpArgs false
set_option exponentiation.threshold 10000
namespace Go.Proofs.Ytodigegjngnknaa
open Go.RowKit GW NL Go.Proofs.Ytodigegjngnknaa.X
attribute [local go_sem ↓] run_mx6 run_mxs run_mns
theorem curve_up {r h : Int} (h0 : 0 ≤ h) (hr : h < r) : h * h ≤ 2 * (r - h) * ((curveN r h : Nat) : Int) := by
  unfold curveN
  obtain ⟨n, rfl⟩ := Int.eq_ofNat_of_zero_le h0
  obtain ⟨q, hq⟩ : ∃ q : Nat, 2 * (r - (n : Int)) = (q : Int) := ⟨(2 * (r - n)).toNat, by omega⟩
  rw [hq]
  simp only [Int.natAbs_natCast]
  have e := Nat.div_add_mod (n * n + (q - 1)) q
  have l := Nat.mod_lt (n * n + (q - 1)) (show 0 < q by omega)
  have h1 : n * n ≤ q * ((n * n + (q - 1)) / q) := by omega
  exact_mod_cast h1
theorem clamp_ok {X A k x0 x a : Int} (hX : -100000000000 ≤ X ∧ X ≤ 100000000000) (hA : -k ≤ A ∧ A ≤ k) (h0 : X + A = x0) (hx : mn2 (mx2 x0 (-100000000000)) 100000000000 = x) (ha : x - X = a) :
    (-100000000000 ≤ x ∧ x ≤ 100000000000) ∧ (-k ≤ a ∧ a ≤ k) ∧ (-200000000000 ≤ a ∧ a ≤ 200000000000) := by
  rw [clamp_val] at hx
  omega
theorem lin_at {X Y Z U V W r k k2 x y z a b c : Int} (hp : In3 100000000000 X Y Z) (hq : In3 100000000000 U V W) (hr : IsRoot r (dd X Y Z U V W)) (hr4 : r ≤ 400000000000) (hr2 : 2 ≤ r) (hk0 : 0 ≤ k) (hk : 2 * k ≤ r - 1) (hk2 : 2 * k = k2)
    (hxI : In3 100000000000 x y z) (ha : x - X = a) (hb : y - Y = b) (hc : z - Z = c) (hak : (-k ≤ a ∧ a ≤ k) ∧ (-k ≤ b ∧ b ≤ k) ∧ (-k ≤ c ∧ c ≤ k)) (haI : In3 100000000000 a b c) :
    ∃ u v s L Yr sl : Int,
      (∀ w, Calls Try.prog 19 #[.agg #[.int .i64 X, .int .i64 Y, .int .i64 Z], .agg #[.int .i64 U, .int .i64 V, .int .i64 W]] w fun e w' => e = .returned (.tuple #[.agg #[.int .i64 u, .int .i64 v, .int .i64 s], .int .i64 0]) ∧ Below w.heap.size w w') ∧
      (∀ w, Calls Try.prog 21 #[.agg #[.int .i64 u, .int .i64 v, .int .i64 s], .agg #[.int .i64 a, .int .i64 b, .int .i64 c]] w fun e w' => e = .returned (.tuple #[.int .i64 L, .int .i64 0]) ∧ Below w.heap.size w w') ∧
      (∀ w, Calls Try.prog 11 #[.agg #[.int .i64 x, .int .i64 y, .int .i64 z], .agg #[.int .i64 U, .int .i64 V, .int .i64 W]] w fun e w' => e = .returned (.tuple #[.int .i64 Yr, .int .i64 0]) ∧ Below w.heap.size w w') ∧
      (∀ w, Calls Try.prog 24 #[.int .i64 k2] w fun e w' => e = .returned (.tuple #[.int .i64 sl, .int .i64 0]) ∧ Below w.heap.size w w') ∧
      (1 ≤ sl ∧ sl ≤ 2000) ∧ (-1000000000000 ≤ L ∧ L ≤ 1000000000000) ∧ (0 ≤ Yr ∧ Yr ≤ 400000000000) ∧
      (Yr - (r - L) ≤ ((curveN r k2 : Nat) : Int) + (sl + 2) ∧ -(Yr - (r - L)) ≤ ((curveN r k2 : Nat) : Int) + (sl + 2)) := by
  have he : ¬ (X = U ∧ Y = V ∧ Z = W) := by
    rintro ⟨rfl, rfl, rfl⟩
    have h2 := hr.2.2.1
    have h3 := DI.sq_mono (show 2 ≤ r by omega) (by omega)
    unfold dd at h2
    simp at h2
    omega
  have hD := D_pos (D := _) rfl rfl rfl he rfl
  obtain ⟨u, hu⟩ := Dir1.ex (a := U - X) hD (by clear ha hb hc hak hk hk2; omega)
  obtain ⟨v, hv'⟩ := Dir1.ex (a := V - Y) hD (by clear ha hb hc hak hk hk2; omega)
  obtain ⟨s, hs⟩ := Dir1.ex (a := W - Z) hD (by clear ha hb hc hak hk hk2; omega)
  obtain ⟨D, hDD⟩ : ∃ D, (U - X).natAbs * (U - X).natAbs + (V - Y).natAbs * (V - Y).natAbs + (W - Z).natAbs * (W - Z).natAbs = D := ⟨_, rfl⟩
  have CD := fun w => ddir_yes X Y Z U V W (U - X) (V - Y) (W - Z) u v s D rfl rfl rfl hp hq he hDD (hDD ▸ hu) (hDD ▸ hv') (hDD ▸ hs) w
  rw [hDD] at hD hu hv' hs
  have hdd : dd X Y Z U V W = (D : Int) := by
    unfold dd
    rw [← hDD]
    simp [Int.natAbs_mul_self']
  have hdd2 : (U - X) * (U - X) + (V - Y) * (V - Y) + (W - Z) * (W - Z) = (D : Int) := hdd
  have B : ∀ {a u : Int}, a.natAbs * a.natAbs ≤ D → Dir1 D a u → In 1073741824 u := by
    intro a u h1 h2
    obtain ⟨t, _, _, _, p1, p2, p3, _⟩ := h2.part hD h1
    unfold In
    rcases p3 with ⟨e, _⟩ | ⟨e, _⟩ <;> omega
  have hus : In3 1073741824 u v s := ⟨B (by clear ha hb hc hak hk hk2; omega) hu, B (by clear ha hb hc hak hk hk2; omega) hv', B (by clear ha hb hc hak hk hk2; omega) hs⟩
  have CA := fun w => dalong_yes u v s a b c hus haI w
  obtain ⟨Yr, hY, hY4, KY, _⟩ := range_at x y z U V W hxI hq
  have CS := fun w => slack_any k2 w
  have hw2 : Way k2 := by unfold Way; omega
  have hs2 : slackX k2 = (slackV k2, 0) := if_pos hw2
  rw [hs2] at CS
  have cu := curve_up (r := r) (h := k2) (by omega) (by omega)
  have S1 := mul_in (x := u) (y := a) hus.1 haI.1
  have S2 := mul_in (x := v) (y := b) hus.2.1 haI.2.1
  have S3 := mul_in (x := s) (y := c) hus.2.2 haI.2.2
  obtain ⟨L, hL⟩ : ∃ L, DI.rnd (u * a + v * b + s * c) = L := ⟨_, rfl⟩
  have hLb : -1000000000000 ≤ L ∧ L ≤ 1000000000000 := by
    rw [← hL]
    generalize u * a = p at *
    generalize v * b = q at *
    generalize s * c = t at *
    clear cu hdd hdd2 hDD ha hb hc hak hk hk2 hY4 hw2
    unfold DI.rnd
    split <;> omega
  have hD' : (0 : Int) < (D : Int) := by clear ha hb hc hak hk hk2 hdd hdd2 hDD S1 S2 S3; omega
  have e1 : U - X - a = U - x := by omega
  have e2 : V - Y - b = V - y := by omega
  have e3 : W - Z - c = W - z := by omega
  have Y1 := hY.2.2.1
  have Y2 := hY.2.2.2
  unfold dd at Y1 Y2
  have hk9 : k < 2 ^ 40 := by omega
  have hY9 : Yr < 2 ^ 40 := by omega
  have hkr : 2 * k < r := by omega
  have lin := DI.linear (x := a) (y := b) (z := c) (Y := Yr) (k := ((curveN r k2 : Nat) : Int)) (d := k) hD' hdd2 hu.isDir hv'.isDir hs.isDir hr2 (hdd ▸ hr.2.2.1) (hdd ▸ hr.2.2.2) hk0 hkr hk9 hak.1 hak.2.1 hak.2.2 hY.1 hY9
    (by rw [e1, e2, e3]; exact Y1) (by rw [e1, e2, e3]; exact Y2) (by rw [hk2]; exact cu) (Int.natCast_nonneg _)
  rw [hL, hk2] at lin
  rw [hL] at CA
  exact ⟨u, v, s, L, Yr, slackV k2, CD, CA, KY, CS, by unfold slackV; omega, hLb, ⟨hY.1, hY4⟩, by unfold slackV; exact ⟨by have := lin.1; omega, by have := lin.2; omega⟩⟩
theorem addX (a b : Int) (ha : Fx.R64 a) (hb : Fx.R64 b) (w : World) : Calls Try.prog 30 #[.int .i64 a, .int .i64 b] w fun e w' => e = .returned (.int .i64 (sat (a + b))) ∧ Below w.heap.size w w' :=
  (X.rAdd_any a b ha hb w).mono fun e w' h => ⟨h.1, h.2 ▸ Below.refl _ _⟩
theorem sat_ge {a b : Int} (h : a ≤ b) (h9 : a < 9223372036854775808) (hb : -9223372036854775808 ≤ b) : a ≤ sat b := by
  unfold sat
  split
  · omega
  · split <;> omega
set_option maxRecDepth 20000 in
set_option maxHeartbeats 40000000 in
theorem linear_walk (a1 a2 a3 b1 b2 b3 c1 c2 c3 h : Int) (ha1 : I64 a1) (ha2 : I64 a2) (ha3 : I64 a3) (hb1 : I64 b1) (hb2 : I64 b2) (hb3 : I64 b3) (hc1 : I64 c1) (hc2 : I64 c2) (hc3 : I64 c3) (hh : I64 h) (w : World) :
    Calls Try.prog 8 #[.agg #[.int .i64 a1, .int .i64 a2, .int .i64 a3], .agg #[.int .i64 b1, .int .i64 b2, .int .i64 b3], .agg #[.int .i64 c1, .int .i64 c2, .int .i64 c3], .int .i64 h] w fun e w' => e = .returned (.bool true) ∧ Below w.heap.size w w' := by
  refine calls_b fun g => ?_
  have N1 := Lib.hid (fun w => lnear_any a1 a2 a3 ha1 ha2 ha3 w)
  have N2 := Lib.hid (fun w => lnear_any b1 b2 b3 hb1 hb2 hb3 w)
  have NH := Lib.hid hh
  have HC := Lib.hid (And.intro hc1 (And.intro hc2 hc3))
  clear ha1 ha2 ha3 hb1 hb2 hb3 hc1 hc2 hc3 hh
  go_enter Try.func8, Try.ntmps8
  go_wp2_with (with_reducible refine G.any_mark _ ?_; (try generalize Array.size (World.heap (G.w _)) = bk); (try dsimp only [List.set_cons_zero, List.set_cons_succ]); (try clear g); intro g)
  rename_i ba bb K9 hx9
  go_cut [9, 10] (fun r5 r6 wx => ∃ (X Y Z U V W : Int) (pb qb : Nat) (g : G w [] [(qb, 23, [.int .i64 U, .int .i64 V, .int .i64 W]), (pb, 23, [.int .i64 X, .int .i64 Y, .int .i64 Z]), (bk, 23, [.int .i64 c1, .int .i64 c2, .int .i64 c3]), (bb, 23, [.int .i64 b1, .int .i64 b2, .int .i64 b3]), (ba, 23, [.int .i64 a1, .int .i64 a2, .int .i64 a3])] [heapOf w]), In3 100000000000 X Y Z ∧ In3 100000000000 U V W ∧ r5 = .pointer (some ⟨pb, 0, none⟩) ∧ r6 = .pointer (some ⟨qb, 0, none⟩) ∧ wx = g.w)
  case first =>
    clear NH HC
    go_region_held3 (G.heldN g [true, true, true]) (simp [G.heldN, HeldN, go_sem]) (first
      | (go_at_call 10; first
          | ((with_reducible refine (N1.out _).mono ?_); rintro e w1 ⟨XN1, YN1, ZN1, hN1, rfl, hb⟩; obtain ⟨g1, rfl⟩ := G.call_ex _ hb; clear hb N1; (try clear g); revert g1; intro g)
          | ((with_reducible refine (N2.out _).mono ?_); rintro e w1 ⟨XN2, YN2, ZN2, hN2, rfl, hb⟩; obtain ⟨g1, rfl⟩ := G.call_ex _ hb; clear hb N2; (try clear g); revert g1; intro g))
      | fail)
    all_goals (first | ((try simp only [G.drew_eq, G.drewN_eq]); (refine G.any_mark _ ?_; (try clear g); intro g)) | skip)
    all_goals go_wp2_with fail
    all_goals go_meet
    all_goals first
      | exact ⟨_, _, _, _, _, _, _, _, g, hN1, hN2, rfl, rfl, rfl⟩
      | (obtain ⟨g', hg⟩ := G.perm g (List.Perm.swap _ _ _)
         exact ⟨_, _, _, _, _, _, _, _, g', hN1, hN2, rfl, rfl, hg⟩)
  case rest =>
  obtain ⟨X, Y, Z, U, V, W, pb, qb, g, hp, hq, rfl, rfl, rfl⟩ := hcut
  clear N1 N2
  obtain ⟨r, hr, hr4, K1, _⟩ := range_at X Y Z U V W hp hq
  have CR := Lib.hid K1
  have CL := Lib.hid lives_ok
  have hr0 := hr.1
  have l1 : ¬ r < 0 := by omega
  have l2 : ¬ 400000000000 < r := by omega
  have HP := Lib.hid (And.intro hp (And.intro hq (And.intro hr hr4)))
  clear hp hq K1 hr hr4 hr0
  go_wp2_with (with_reducible refine G.any_mark _ ?_; (try generalize Array.size (World.heap (G.w _)) = bk); (try dsimp only [List.set_cons_zero, List.set_cons_succ]); (try clear g); intro g)
  refine (CR.out _).mono ?_
  rintro e w1 ⟨rfl, hb⟩
  obtain ⟨g1, rfl⟩ := G.call_ex _ hb
  clear hb
  (try clear g)
  revert g1
  intro g
  go_wp2_with (with_reducible refine G.any_mark _ ?_; (try generalize Array.size (World.heap (G.w _)) = bk); (try dsimp only [List.set_cons_zero, List.set_cons_succ]); (try clear g); intro g)
  refine (CL.out _).mono ?_
  rintro e w1 ⟨rfl, hb⟩
  obtain ⟨g1, rfl⟩ := G.call_ex _ hb
  clear hb
  (try clear g)
  revert g1
  intro g
  clear CR CL
  by_cases hr2 : r < 2
  · as_aux_lemma =>
      go_wp2_with (with_reducible refine G.any_mark _ ?_; (try generalize Array.size (World.heap (G.w _)) = bk); (try dsimp only [List.set_cons_zero, List.set_cons_succ]); (try clear g); intro g)
      go_ret
      exact ⟨rfl, G.below _⟩
  have hr4 := HP.out.2.2.2
  obtain ⟨r1, hr1⟩ : ∃ x, r - 1 = x := ⟨_, rfl⟩
  obtain ⟨t, ht⟩ : ∃ x, Int.tdiv r1 2 = x := ⟨_, rfl⟩
  obtain ⟨t1, ht1⟩ : ∃ x, t + 1 = x := ⟨_, rfl⟩
  have ht0 : 2 * t ≤ r1 ∧ 0 ≤ t := by
    rw [Int.tdiv_eq_ediv_of_nonneg (by omega)] at ht
    omega
  have w1 : IntKind.i64.wrap (r - 1) = r1 := by rw [hr1, IntKind.wrap_i64]; omega
  have w2 : IntKind.i64.wrap t = t := by rw [IntKind.wrap_i64]; omega
  have w3 : IntKind.i64.wrap (t + 1) = t1 := by rw [ht1, IntKind.wrap_i64]; omega
  have CP := Lib.hid (fun w => pick_i t1 h (by omega) (by omega) NH.out w)
  have HT := Lib.hid (And.intro hr1 (And.intro ht1 (And.intro ht0 (And.intro hr4 hr2))))
  clear hr1 ht1 ht0 hr4
  go_wp2_with (with_reducible refine G.any_mark _ ?_; (try generalize Array.size (World.heap (G.w _)) = bk); (try dsimp only [List.set_cons_zero, List.set_cons_succ]); (try clear g); intro g)
  refine (CP.out _).mono ?_
  rintro e w9 ⟨k, ⟨hk0, hk⟩, rfl, hb⟩
  obtain ⟨g1, rfl⟩ := G.call_ex _ hb
  clear hb CP NH ht w1 w2 w3 hr2 l1 l2
  (try clear g)
  revert g1
  intro g
  obtain ⟨k2, hk2⟩ : ∃ k2, 2 * k = k2 := ⟨_, rfl⟩
  obtain ⟨m, hm⟩ : ∃ m, k2 + 1 = m := ⟨_, rfl⟩
  obtain ⟨hr1, ht1, ht0, hr4, hr2⟩ := HT.out
  have V1 := Lib.hid (fun w => pick_i m c1 (by omega) (by omega) HC.out.1 w)
  have V2 := Lib.hid (fun w => pick_i m c2 (by omega) (by omega) HC.out.2.1 w)
  have V3 := Lib.hid (fun w => pick_i m c3 (by omega) (by omega) HC.out.2.2 w)
  have u1 : IntKind.i64.wrap (2 * k) = k2 := by rw [hk2, IntKind.wrap_i64]; omega
  have u2 : IntKind.i64.wrap (k2 + 1) = m := by rw [hm, IntKind.wrap_i64]; omega
  have uw : ∀ x : Int, 0 ≤ x → x < m → ∃ y, IntKind.i64.wrap (x - k) = y ∧ In k y := by intro x h1 h2; exact ⟨x - k, by rw [IntKind.wrap_i64]; omega, by unfold In; omega⟩
  have UW := Lib.hid uw
  have HK := Lib.hid (And.intro (And.intro hk0 hk) (And.intro hk2 hm))
  clear hk0 hk hk2 hm uw hr1 ht1 ht0 hr4 hr2 HC
  go_wp2_with (with_reducible refine G.any_mark _ ?_; (try generalize Array.size (World.heap (G.w _)) = bk); (try dsimp only [List.set_cons_zero, List.set_cons_succ]); (try clear g); intro g)
  go_cut [13] (fun r11 wx => ∃ (A B C : Int) (vb : Nat) (g : G w [] [(vb, 23, [.int .i64 A, .int .i64 B, .int .i64 C]), (qb, 23, [.int .i64 U, .int .i64 V, .int .i64 W]), (pb, 23, [.int .i64 X, .int .i64 Y, .int .i64 Z]), (bk, 23, [.int .i64 c1, .int .i64 c2, .int .i64 c3]), (bb, 23, [.int .i64 b1, .int .i64 b2, .int .i64 b3]), (ba, 23, [.int .i64 a1, .int .i64 a2, .int .i64 a3])] [heapOf w]), In3 k A B C ∧ r11 = .pointer (some ⟨vb, 0, none⟩) ∧ wx = g.w)
  case first =>
    refine wp_region_held_drew (S := G.heldN g [false, false, true, false, false]) (by kernel_rfl) (by simp [G.heldN, HeldN, go_sem]) (fun hHeld => ?_)
    refine wpAnyH_take (i := 0) (v := ?_) rfl (by kernel_rfl) (by kernel_rfl) (by kernel_rfl) (fun _ _ _ h => h) (Or.inl ⟨by rfl, ?_⟩) (by assumption) ?_
    rotate_left 1
    · (intro w hSw; (try dsimp only at hSw); go_simp; (try with_reducible rfl))
    (try simp only [Act.put, List.setIfInBounds_toArray, List.set_cons_zero, List.set_cons_succ])
    refine wpAnyH_take (i := 1) (v := ?_) rfl (by kernel_rfl) (by kernel_rfl) (by kernel_rfl) (fun _ _ _ h => h) (Or.inl ⟨by rfl, ?_⟩) (by assumption) ?_
    rotate_left 1
    · (intro w hSw; (try dsimp only at hSw); go_simp; (try with_reducible rfl))
    (try simp only [Act.put, List.setIfInBounds_toArray, List.set_cons_zero, List.set_cons_succ])
    refine wpAnyH_take (i := 2) (v := ?_) rfl (by kernel_rfl) (by kernel_rfl) (by kernel_rfl) (fun _ _ _ h => h) (Or.inl ⟨by rfl, ?_⟩) (by assumption) ?_
    rotate_left 1
    · (intro w hSw; (try dsimp only at hSw); go_simp; (try with_reducible rfl))
    (try simp only [Act.put, List.setIfInBounds_toArray, List.set_cons_zero, List.set_cons_succ])
    refine wpAnyH_take (i := 3) (v := ?_) rfl (by kernel_rfl) (by kernel_rfl) (by kernel_rfl) (fun _ _ _ h => h) (Or.inl ⟨by rfl, ?_⟩) (by assumption) ?_
    rotate_left 1
    · (intro w hSw; (try dsimp only at hSw); go_simp; (try with_reducible rfl))
    (try simp only [Act.put, List.setIfInBounds_toArray, List.set_cons_zero, List.set_cons_succ])
    refine wpAnyH_take (i := 4) (v := ?_) rfl (by kernel_rfl) (by kernel_rfl) (by kernel_rfl) (fun _ _ _ h => h) (Or.inl ⟨by rfl, ?_⟩) (by assumption) ?_
    rotate_left 1
    · (intro w hSw; (try dsimp only at hSw); go_simp; (try with_reducible rfl))
    (try simp only [Act.put, List.setIfInBounds_toArray, List.set_cons_zero, List.set_cons_succ])
    refine wpAnyH_take (i := 6) (v := ?_) rfl (by kernel_rfl) (by kernel_rfl) (by kernel_rfl) (fun _ _ _ h => h) (Or.inl ⟨by rfl, ?_⟩) (by assumption) ?_
    rotate_left 1
    · (intro w hSw; (try dsimp only at hSw); go_simp; (try with_reducible rfl))
    (try simp only [Act.put, List.setIfInBounds_toArray, List.set_cons_zero, List.set_cons_succ])
    refine wpAnyH_take (i := 8) (v := ?_) rfl (by kernel_rfl) (by kernel_rfl) (by kernel_rfl) (fun _ _ _ h => h) (Or.inl ⟨by rfl, ?_⟩) (by assumption) ?_
    rotate_left 1
    · (intro w hSw; (try dsimp only at hSw); go_simp; (try with_reducible rfl))
    (try simp only [Act.put, List.setIfInBounds_toArray, List.set_cons_zero, List.set_cons_succ])
    refine wpAnyH_take (i := 9) (v := ?_) rfl (by kernel_rfl) (by kernel_rfl) (by kernel_rfl) (fun _ _ _ h => h) (Or.inl ⟨by rfl, ?_⟩) (by assumption) ?_
    rotate_left 1
    · (intro w hSw; (try dsimp only at hSw); go_simp; (try with_reducible rfl))
    (try simp only [Act.put, List.setIfInBounds_toArray, List.set_cons_zero, List.set_cons_succ])
    refine wpAnyH_take (i := 10) (v := ?_) rfl (by kernel_rfl) (by kernel_rfl) (by kernel_rfl) (fun _ _ _ h => h) (Or.inl ⟨by rfl, ?_⟩) (by assumption) ?_
    rotate_left 1
    · (intro w hSw; (try dsimp only at hSw); go_simp; (try with_reducible rfl))
    (try simp only [Act.put, List.setIfInBounds_toArray, List.set_cons_zero, List.set_cons_succ])
    refine wpAnyH_take (i := 11) (v := ?_) rfl (by kernel_rfl) (by kernel_rfl) (by kernel_rfl) (fun _ _ _ h => h) (Or.inl ⟨by rfl, ?_⟩) (by assumption) ?_
    rotate_left 1
    · (intro w hSw; (try dsimp only at hSw); go_simp; (try with_reducible rfl))
    (try simp only [Act.put, List.setIfInBounds_toArray, List.set_cons_zero, List.set_cons_succ])
    refine wpAnyH_take (i := 12) (v := ?_) rfl (by kernel_rfl) (by kernel_rfl) (by kernel_rfl) (fun _ _ _ h => h) (Or.inl ⟨by rfl, ?_⟩) (by assumption) ?_
    rotate_left 1
    · (intro w hSw; (try dsimp only at hSw); go_simp; (try with_reducible rfl))
    (try simp only [Act.put, List.setIfInBounds_toArray, List.set_cons_zero, List.set_cons_succ])
    refine wpAnyH_take (i := 14) (v := ?_) rfl (by kernel_rfl) (by kernel_rfl) (by kernel_rfl) (fun _ _ _ h => h) (Or.inl ⟨by rfl, ?_⟩) (by assumption) ?_
    rotate_left 1
    · (intro w hSw; (try dsimp only at hSw); go_simp; (try with_reducible rfl))
    (try simp only [Act.put, List.setIfInBounds_toArray, List.set_cons_zero, List.set_cons_succ])
    refine wpAnyH_take (i := 16) (v := ?_) rfl (by kernel_rfl) (by kernel_rfl) (by kernel_rfl) (fun _ _ _ h => h) (Or.inl ⟨by rfl, ?_⟩) (by assumption) ?_
    rotate_left 1
    · (intro w hSw; (try dsimp only at hSw); go_simp; (try with_reducible rfl))
    (try simp only [Act.put, List.setIfInBounds_toArray, List.set_cons_zero, List.set_cons_succ])
    refine wpAnyH_take (i := 17) (v := ?_) rfl (by kernel_rfl) (by kernel_rfl) (by kernel_rfl) (fun _ _ _ h => h) (Or.inl ⟨by rfl, ?_⟩) (by assumption) ?_
    rotate_left 1
    · (intro w hSw; (try dsimp only at hSw); go_simp; (try with_reducible rfl))
    (try simp only [Act.put, List.setIfInBounds_toArray, List.set_cons_zero, List.set_cons_succ])
    refine wpAnyH_take (i := 18) (v := ?_) rfl (by kernel_rfl) (by kernel_rfl) (by kernel_rfl) (fun _ _ _ h => h) (Or.inl ⟨by rfl, ?_⟩) (by assumption) ?_
    rotate_left 1
    · (intro w hSw; (try dsimp only at hSw); go_simp; (try with_reducible rfl))
    (try simp only [Act.put, List.setIfInBounds_toArray, List.set_cons_zero, List.set_cons_succ])
    refine wpAnyH_take (i := 19) (v := ?_) rfl (by kernel_rfl) (by kernel_rfl) (by kernel_rfl) (fun _ _ _ h => h) (Or.inl ⟨by rfl, ?_⟩) (by assumption) ?_
    rotate_left 1
    · (intro w hSw; (try dsimp only at hSw); go_simp; (try with_reducible rfl))
    (try simp only [Act.put, List.setIfInBounds_toArray, List.set_cons_zero, List.set_cons_succ])
    refine wpAnyH_take (i := 20) (v := ?_) rfl (by kernel_rfl) (by kernel_rfl) (by kernel_rfl) (fun _ _ _ h => h) (Or.inl ⟨by rfl, ?_⟩) (by assumption) ?_
    rotate_left 1
    · (intro w hSw; (try dsimp only at hSw); go_simp; (try with_reducible rfl))
    (try simp only [Act.put, List.setIfInBounds_toArray, List.set_cons_zero, List.set_cons_succ])
    refine wpAnyH_take (i := 22) (v := ?_) rfl (by kernel_rfl) (by kernel_rfl) (by kernel_rfl) (fun _ _ _ h => h) (Or.inl ⟨by rfl, ?_⟩) (by assumption) ?_
    rotate_left 1
    · (intro w hSw; (try dsimp only at hSw); go_simp; (try with_reducible rfl))
    (try simp only [Act.put, List.setIfInBounds_toArray, List.set_cons_zero, List.set_cons_succ])
    (try simp only [Act.put, List.getElem_toArray, List.getElem_cons_zero, List.getElem_cons_succ, List.setIfInBounds_toArray, List.set_cons_zero, List.set_cons_succ])
    refine wpAnyH_ready (rs := [5, 25]) (by kernel_rfl) (by simp) ?_
    refine AllReadyH.cons rfl (fun K hK => ?_) (AllReadyH.cons rfl (fun K hK => ?_) AllReadyH.nil)
    · as_aux_lemma =>
        go_simp
        go_at_call 16
        (with_reducible refine (V1.out _).mono ?_)
        rintro e w1 ⟨x1, hx1, rfl, hb⟩
        obtain ⟨y1, ux1, hy1⟩ := UW.out x1 hx1.1 hx1.2
        replace hy1 := Lib.hid hy1
        clear hx1 hHeld
        obtain ⟨g1, rfl⟩ := G.call_ex _ hb
        clear hb
        refine hK.out _ _ (by simp [G.heldN, HeldN, go_sem]) (fun hHeld => ?_)
        clear hK K
        (try simp only [Act.put, List.getElem_toArray, List.getElem_cons_zero, List.getElem_cons_succ, List.setIfInBounds_toArray, List.set_cons_zero, List.set_cons_succ])
        refine wpAnyH_take (i := 7) (v := ?_) rfl (by kernel_rfl) (by kernel_rfl) (by kernel_rfl) (fun _ _ _ h => h) (Or.inl ⟨by rfl, ?_⟩) (by assumption) ?_
        rotate_left 1
        · (intro w hSw; (try dsimp only at hSw); go_simp; (try with_reducible rfl))
        (try simp only [Act.put, List.setIfInBounds_toArray, List.set_cons_zero, List.set_cons_succ])
        (try simp only [Act.put, List.getElem_toArray, List.getElem_cons_zero, List.getElem_cons_succ, List.setIfInBounds_toArray, List.set_cons_zero, List.set_cons_succ])
        refine wpAnyH_ready (rs := [13, 25]) (by kernel_rfl) (by simp) ?_
        refine AllReadyH.cons rfl (fun K hK => ?_) (AllReadyH.cons rfl (fun K hK => ?_) AllReadyH.nil)
        · as_aux_lemma =>
            go_simp
            go_at_call 16
            (with_reducible refine (V2.out _).mono ?_)
            rintro e w1 ⟨x2, hx2, rfl, hb⟩
            obtain ⟨y2, ux2, hy2⟩ := UW.out x2 hx2.1 hx2.2
            replace hy2 := Lib.hid hy2
            clear hx2 hHeld
            obtain ⟨g2, rfl⟩ := G.call_ex _ hb
            clear hb
            refine hK.out _ _ (by simp [G.heldN, HeldN, go_sem]) (fun hHeld => ?_)
            clear hK K
            (try simp only [Act.put, List.getElem_toArray, List.getElem_cons_zero, List.getElem_cons_succ, List.setIfInBounds_toArray, List.set_cons_zero, List.set_cons_succ])
            refine wpAnyH_take (i := 15) (v := ?_) rfl (by kernel_rfl) (by kernel_rfl) (by kernel_rfl) (fun _ _ _ h => h) (Or.inl ⟨by rfl, ?_⟩) (by assumption) ?_
            rotate_left 1
            · (intro w hSw; (try dsimp only at hSw); go_simp; (try with_reducible rfl))
            (try simp only [Act.put, List.setIfInBounds_toArray, List.set_cons_zero, List.set_cons_succ])
            (try simp only [Act.put, List.getElem_toArray, List.getElem_cons_zero, List.getElem_cons_succ, List.setIfInBounds_toArray, List.set_cons_zero, List.set_cons_succ])
            refine wpAnyH_ready (rs := [21, 25]) (by kernel_rfl) (by simp) ?_
            refine AllReadyH.cons rfl (fun K hK => ?_) (AllReadyH.cons rfl (fun K hK => ?_) AllReadyH.nil)
            · as_aux_lemma =>
                go_simp
                go_at_call 16
                (with_reducible refine (V3.out _).mono ?_)
                rintro e w1 ⟨x3, hx3, rfl, hb⟩
                obtain ⟨y3, ux3, hy3⟩ := UW.out x3 hx3.1 hx3.2
                replace hy3 := Lib.hid hy3
                clear hx3 hHeld
                obtain ⟨g3, rfl⟩ := G.call_ex _ hb
                clear hb
                refine hK.out _ _ (by simp [G.heldN, HeldN, go_sem]) (fun hHeld => ?_)
                clear hK K
                (try simp only [Act.put, List.getElem_toArray, List.getElem_cons_zero, List.getElem_cons_succ, List.setIfInBounds_toArray, List.set_cons_zero, List.set_cons_succ])
                refine wpAnyH_take (i := 23) (v := ?_) rfl (by kernel_rfl) (by kernel_rfl) (by kernel_rfl) (fun _ _ _ h => h) (Or.inl ⟨by rfl, ?_⟩) (by assumption) ?_
                rotate_left 1
                · (intro w hSw; (try dsimp only at hSw); go_simp; (try with_reducible rfl))
                (try simp only [Act.put, List.setIfInBounds_toArray, List.set_cons_zero, List.set_cons_succ])
                refine wpAnyH_take (i := 24) (v := ?_) rfl (by kernel_rfl) (by kernel_rfl) (by kernel_rfl) (fun _ _ _ h => h) (Or.inl ⟨by rfl, ?_⟩) (by assumption) ?_
                rotate_left 1
                · (intro w hSw; (try dsimp only at hSw); go_simp; (try with_reducible rfl))
                (try simp only [Act.put, List.setIfInBounds_toArray, List.set_cons_zero, List.set_cons_succ])
                (try simp only [Act.put, List.getElem_toArray, List.getElem_cons_zero, List.getElem_cons_succ, List.setIfInBounds_toArray, List.set_cons_zero, List.set_cons_succ])
                refine wpAnyH_ready (rs := [25]) (by kernel_rfl) (by simp) ?_
                refine AllReadyH.cons rfl (fun K hK => ?_) AllReadyH.nil
                go_simp
                clear hHeld
                refine hK.out _ _ (by simp [G.heldN, HeldN, go_sem]) (fun hHeld => ?_)
                clear hK K
                (try simp only [Act.put, List.getElem_toArray, List.getElem_cons_zero, List.getElem_cons_succ, List.setIfInBounds_toArray, List.set_cons_zero, List.set_cons_succ])
                refine wpAnyH_ready (rs := [26]) (by kernel_rfl) (by simp) ?_
                refine AllReadyH.cons rfl (fun K hK => ?_) AllReadyH.nil
                go_simp
                clear hHeld
                refine hK.out _ _ (by simp [G.heldN, HeldN, go_sem]) (fun hHeld => ?_)
                clear hK K
                (try simp only [Act.put, List.getElem_toArray, List.getElem_cons_zero, List.getElem_cons_succ, List.setIfInBounds_toArray, List.set_cons_zero, List.set_cons_succ])
                refine wpAnyH_done (by kernel_rfl) ?_ _
                clear hHeld
                (first | ((try simp only [G.drew_eq, G.drewN_eq]); (refine G.any_mark _ ?_; (try clear g); intro g)) | skip)
                go_wp2_with fail
                go_meet
                exact ⟨_, _, _, _, g, ⟨hy1.out, hy2.out, hy3.out⟩, rfl, rfl⟩
            · as_aux_lemma =>
                go_simp
                clear hHeld
                refine hK.out _ _ (by simp [G.heldN, HeldN, go_sem]) (fun hHeld => ?_)
                clear hK K
                (try simp only [Act.put, List.getElem_toArray, List.getElem_cons_zero, List.getElem_cons_succ, List.setIfInBounds_toArray, List.set_cons_zero, List.set_cons_succ])
                refine wpAnyH_ready (rs := [21]) (by kernel_rfl) (by simp) ?_
                refine AllReadyH.cons rfl (fun K hK => ?_) AllReadyH.nil
                go_simp
                go_at_call 16
                (with_reducible refine (V3.out _).mono ?_)
                rintro e w1 ⟨x3, hx3, rfl, hb⟩
                obtain ⟨y3, ux3, hy3⟩ := UW.out x3 hx3.1 hx3.2
                replace hy3 := Lib.hid hy3
                clear hx3 hHeld
                obtain ⟨g3, rfl⟩ := G.call_ex _ hb
                clear hb
                refine hK.out _ _ (by simp [G.heldN, HeldN, go_sem]) (fun hHeld => ?_)
                clear hK K
                (try simp only [Act.put, List.getElem_toArray, List.getElem_cons_zero, List.getElem_cons_succ, List.setIfInBounds_toArray, List.set_cons_zero, List.set_cons_succ])
                refine wpAnyH_take (i := 23) (v := ?_) rfl (by kernel_rfl) (by kernel_rfl) (by kernel_rfl) (fun _ _ _ h => h) (Or.inl ⟨by rfl, ?_⟩) (by assumption) ?_
                rotate_left 1
                · (intro w hSw; (try dsimp only at hSw); go_simp; (try with_reducible rfl))
                (try simp only [Act.put, List.setIfInBounds_toArray, List.set_cons_zero, List.set_cons_succ])
                refine wpAnyH_take (i := 24) (v := ?_) rfl (by kernel_rfl) (by kernel_rfl) (by kernel_rfl) (fun _ _ _ h => h) (Or.inl ⟨by rfl, ?_⟩) (by assumption) ?_
                rotate_left 1
                · (intro w hSw; (try dsimp only at hSw); go_simp; (try with_reducible rfl))
                (try simp only [Act.put, List.setIfInBounds_toArray, List.set_cons_zero, List.set_cons_succ])
                (try simp only [Act.put, List.getElem_toArray, List.getElem_cons_zero, List.getElem_cons_succ, List.setIfInBounds_toArray, List.set_cons_zero, List.set_cons_succ])
                refine wpAnyH_ready (rs := [26]) (by kernel_rfl) (by simp) ?_
                refine AllReadyH.cons rfl (fun K hK => ?_) AllReadyH.nil
                go_simp
                clear hHeld
                refine hK.out _ _ (by simp [G.heldN, HeldN, go_sem]) (fun hHeld => ?_)
                clear hK K
                (try simp only [Act.put, List.getElem_toArray, List.getElem_cons_zero, List.getElem_cons_succ, List.setIfInBounds_toArray, List.set_cons_zero, List.set_cons_succ])
                refine wpAnyH_done (by kernel_rfl) ?_ _
                clear hHeld
                (first | ((try simp only [G.drew_eq, G.drewN_eq]); (refine G.any_mark _ ?_; (try clear g); intro g)) | skip)
                go_wp2_with fail
                go_meet
                exact ⟨_, _, _, _, g, ⟨hy1.out, hy2.out, hy3.out⟩, rfl, rfl⟩
        · as_aux_lemma =>
            go_simp
            clear hHeld
            refine hK.out _ _ (by simp [G.heldN, HeldN, go_sem]) (fun hHeld => ?_)
            clear hK K
            (try simp only [Act.put, List.getElem_toArray, List.getElem_cons_zero, List.getElem_cons_succ, List.setIfInBounds_toArray, List.set_cons_zero, List.set_cons_succ])
            refine wpAnyH_ready (rs := [13]) (by kernel_rfl) (by simp) ?_
            refine AllReadyH.cons rfl (fun K hK => ?_) AllReadyH.nil
            go_simp
            go_at_call 16
            (with_reducible refine (V2.out _).mono ?_)
            rintro e w1 ⟨x2, hx2, rfl, hb⟩
            obtain ⟨y2, ux2, hy2⟩ := UW.out x2 hx2.1 hx2.2
            replace hy2 := Lib.hid hy2
            clear hx2 hHeld
            obtain ⟨g2, rfl⟩ := G.call_ex _ hb
            clear hb
            refine hK.out _ _ (by simp [G.heldN, HeldN, go_sem]) (fun hHeld => ?_)
            clear hK K
            (try simp only [Act.put, List.getElem_toArray, List.getElem_cons_zero, List.getElem_cons_succ, List.setIfInBounds_toArray, List.set_cons_zero, List.set_cons_succ])
            refine wpAnyH_take (i := 15) (v := ?_) rfl (by kernel_rfl) (by kernel_rfl) (by kernel_rfl) (fun _ _ _ h => h) (Or.inl ⟨by rfl, ?_⟩) (by assumption) ?_
            rotate_left 1
            · (intro w hSw; (try dsimp only at hSw); go_simp; (try with_reducible rfl))
            (try simp only [Act.put, List.setIfInBounds_toArray, List.set_cons_zero, List.set_cons_succ])
            (try simp only [Act.put, List.getElem_toArray, List.getElem_cons_zero, List.getElem_cons_succ, List.setIfInBounds_toArray, List.set_cons_zero, List.set_cons_succ])
            refine wpAnyH_ready (rs := [21]) (by kernel_rfl) (by simp) ?_
            refine AllReadyH.cons rfl (fun K hK => ?_) AllReadyH.nil
            go_simp
            go_at_call 16
            (with_reducible refine (V3.out _).mono ?_)
            rintro e w1 ⟨x3, hx3, rfl, hb⟩
            obtain ⟨y3, ux3, hy3⟩ := UW.out x3 hx3.1 hx3.2
            replace hy3 := Lib.hid hy3
            clear hx3 hHeld
            obtain ⟨g3, rfl⟩ := G.call_ex _ hb
            clear hb
            refine hK.out _ _ (by simp [G.heldN, HeldN, go_sem]) (fun hHeld => ?_)
            clear hK K
            (try simp only [Act.put, List.getElem_toArray, List.getElem_cons_zero, List.getElem_cons_succ, List.setIfInBounds_toArray, List.set_cons_zero, List.set_cons_succ])
            refine wpAnyH_take (i := 23) (v := ?_) rfl (by kernel_rfl) (by kernel_rfl) (by kernel_rfl) (fun _ _ _ h => h) (Or.inl ⟨by rfl, ?_⟩) (by assumption) ?_
            rotate_left 1
            · (intro w hSw; (try dsimp only at hSw); go_simp; (try with_reducible rfl))
            (try simp only [Act.put, List.setIfInBounds_toArray, List.set_cons_zero, List.set_cons_succ])
            refine wpAnyH_take (i := 24) (v := ?_) rfl (by kernel_rfl) (by kernel_rfl) (by kernel_rfl) (fun _ _ _ h => h) (Or.inl ⟨by rfl, ?_⟩) (by assumption) ?_
            rotate_left 1
            · (intro w hSw; (try dsimp only at hSw); go_simp; (try with_reducible rfl))
            (try simp only [Act.put, List.setIfInBounds_toArray, List.set_cons_zero, List.set_cons_succ])
            (try simp only [Act.put, List.getElem_toArray, List.getElem_cons_zero, List.getElem_cons_succ, List.setIfInBounds_toArray, List.set_cons_zero, List.set_cons_succ])
            refine wpAnyH_ready (rs := [26]) (by kernel_rfl) (by simp) ?_
            refine AllReadyH.cons rfl (fun K hK => ?_) AllReadyH.nil
            go_simp
            clear hHeld
            refine hK.out _ _ (by simp [G.heldN, HeldN, go_sem]) (fun hHeld => ?_)
            clear hK K
            (try simp only [Act.put, List.getElem_toArray, List.getElem_cons_zero, List.getElem_cons_succ, List.setIfInBounds_toArray, List.set_cons_zero, List.set_cons_succ])
            refine wpAnyH_done (by kernel_rfl) ?_ _
            clear hHeld
            (first | ((try simp only [G.drew_eq, G.drewN_eq]); (refine G.any_mark _ ?_; (try clear g); intro g)) | skip)
            go_wp2_with fail
            go_meet
            exact ⟨_, _, _, _, g, ⟨hy1.out, hy2.out, hy3.out⟩, rfl, rfl⟩
    · as_aux_lemma =>
        go_simp
        clear hHeld
        refine hK.out _ _ (by simp [G.heldN, HeldN, go_sem]) (fun hHeld => ?_)
        clear hK K
        (try simp only [Act.put, List.getElem_toArray, List.getElem_cons_zero, List.getElem_cons_succ, List.setIfInBounds_toArray, List.set_cons_zero, List.set_cons_succ])
        refine wpAnyH_ready (rs := [5]) (by kernel_rfl) (by simp) ?_
        refine AllReadyH.cons rfl (fun K hK => ?_) AllReadyH.nil
        go_simp
        go_at_call 16
        (with_reducible refine (V1.out _).mono ?_)
        rintro e w1 ⟨x1, hx1, rfl, hb⟩
        obtain ⟨y1, ux1, hy1⟩ := UW.out x1 hx1.1 hx1.2
        replace hy1 := Lib.hid hy1
        clear hx1 hHeld
        obtain ⟨g1, rfl⟩ := G.call_ex _ hb
        clear hb
        refine hK.out _ _ (by simp [G.heldN, HeldN, go_sem]) (fun hHeld => ?_)
        clear hK K
        (try simp only [Act.put, List.getElem_toArray, List.getElem_cons_zero, List.getElem_cons_succ, List.setIfInBounds_toArray, List.set_cons_zero, List.set_cons_succ])
        refine wpAnyH_take (i := 7) (v := ?_) rfl (by kernel_rfl) (by kernel_rfl) (by kernel_rfl) (fun _ _ _ h => h) (Or.inl ⟨by rfl, ?_⟩) (by assumption) ?_
        rotate_left 1
        · (intro w hSw; (try dsimp only at hSw); go_simp; (try with_reducible rfl))
        (try simp only [Act.put, List.setIfInBounds_toArray, List.set_cons_zero, List.set_cons_succ])
        (try simp only [Act.put, List.getElem_toArray, List.getElem_cons_zero, List.getElem_cons_succ, List.setIfInBounds_toArray, List.set_cons_zero, List.set_cons_succ])
        refine wpAnyH_ready (rs := [13]) (by kernel_rfl) (by simp) ?_
        refine AllReadyH.cons rfl (fun K hK => ?_) AllReadyH.nil
        go_simp
        go_at_call 16
        (with_reducible refine (V2.out _).mono ?_)
        rintro e w1 ⟨x2, hx2, rfl, hb⟩
        obtain ⟨y2, ux2, hy2⟩ := UW.out x2 hx2.1 hx2.2
        replace hy2 := Lib.hid hy2
        clear hx2 hHeld
        obtain ⟨g2, rfl⟩ := G.call_ex _ hb
        clear hb
        refine hK.out _ _ (by simp [G.heldN, HeldN, go_sem]) (fun hHeld => ?_)
        clear hK K
        (try simp only [Act.put, List.getElem_toArray, List.getElem_cons_zero, List.getElem_cons_succ, List.setIfInBounds_toArray, List.set_cons_zero, List.set_cons_succ])
        refine wpAnyH_take (i := 15) (v := ?_) rfl (by kernel_rfl) (by kernel_rfl) (by kernel_rfl) (fun _ _ _ h => h) (Or.inl ⟨by rfl, ?_⟩) (by assumption) ?_
        rotate_left 1
        · (intro w hSw; (try dsimp only at hSw); go_simp; (try with_reducible rfl))
        (try simp only [Act.put, List.setIfInBounds_toArray, List.set_cons_zero, List.set_cons_succ])
        (try simp only [Act.put, List.getElem_toArray, List.getElem_cons_zero, List.getElem_cons_succ, List.setIfInBounds_toArray, List.set_cons_zero, List.set_cons_succ])
        refine wpAnyH_ready (rs := [21]) (by kernel_rfl) (by simp) ?_
        refine AllReadyH.cons rfl (fun K hK => ?_) AllReadyH.nil
        go_simp
        go_at_call 16
        (with_reducible refine (V3.out _).mono ?_)
        rintro e w1 ⟨x3, hx3, rfl, hb⟩
        obtain ⟨y3, ux3, hy3⟩ := UW.out x3 hx3.1 hx3.2
        replace hy3 := Lib.hid hy3
        clear hx3 hHeld
        obtain ⟨g3, rfl⟩ := G.call_ex _ hb
        clear hb
        refine hK.out _ _ (by simp [G.heldN, HeldN, go_sem]) (fun hHeld => ?_)
        clear hK K
        (try simp only [Act.put, List.getElem_toArray, List.getElem_cons_zero, List.getElem_cons_succ, List.setIfInBounds_toArray, List.set_cons_zero, List.set_cons_succ])
        refine wpAnyH_take (i := 23) (v := ?_) rfl (by kernel_rfl) (by kernel_rfl) (by kernel_rfl) (fun _ _ _ h => h) (Or.inl ⟨by rfl, ?_⟩) (by assumption) ?_
        rotate_left 1
        · (intro w hSw; (try dsimp only at hSw); go_simp; (try with_reducible rfl))
        (try simp only [Act.put, List.setIfInBounds_toArray, List.set_cons_zero, List.set_cons_succ])
        refine wpAnyH_take (i := 24) (v := ?_) rfl (by kernel_rfl) (by kernel_rfl) (by kernel_rfl) (fun _ _ _ h => h) (Or.inl ⟨by rfl, ?_⟩) (by assumption) ?_
        rotate_left 1
        · (intro w hSw; (try dsimp only at hSw); go_simp; (try with_reducible rfl))
        (try simp only [Act.put, List.setIfInBounds_toArray, List.set_cons_zero, List.set_cons_succ])
        (try simp only [Act.put, List.getElem_toArray, List.getElem_cons_zero, List.getElem_cons_succ, List.setIfInBounds_toArray, List.set_cons_zero, List.set_cons_succ])
        refine wpAnyH_ready (rs := [26]) (by kernel_rfl) (by simp) ?_
        refine AllReadyH.cons rfl (fun K hK => ?_) AllReadyH.nil
        go_simp
        clear hHeld
        refine hK.out _ _ (by simp [G.heldN, HeldN, go_sem]) (fun hHeld => ?_)
        clear hK K
        (try simp only [Act.put, List.getElem_toArray, List.getElem_cons_zero, List.getElem_cons_succ, List.setIfInBounds_toArray, List.set_cons_zero, List.set_cons_succ])
        refine wpAnyH_done (by kernel_rfl) ?_ _
        clear hHeld
        (first | ((try simp only [G.drew_eq, G.drewN_eq]); (refine G.any_mark _ ?_; (try clear g); intro g)) | skip)
        go_wp2_with fail
        go_meet
        exact ⟨_, _, _, _, g, ⟨hy1.out, hy2.out, hy3.out⟩, rfl, rfl⟩
  case rest =>
  obtain ⟨A, B, C, vb, g, hv, rfl, rfl⟩ := hcut
  clear V1 V2 V3 UW u2
  obtain ⟨hp, hq, hr, hr4⟩ := HP.out
  obtain ⟨⟨hk0, hk⟩, hk2, hm⟩ := HK.out
  obtain ⟨hr1, ht1, ht0, _, hr2⟩ := HT.out
  clear HP HK HT
  have hvb : (-k ≤ A ∧ A ≤ k) ∧ (-k ≤ B ∧ B ≤ k) ∧ (-k ≤ C ∧ C ≤ k) := by unfold In3 In at hv; exact hv
  have hpb : (-100000000000 ≤ X ∧ X ≤ 100000000000) ∧ (-100000000000 ≤ Y ∧ Y ≤ 100000000000) ∧ (-100000000000 ≤ Z ∧ Z ≤ 100000000000) := by unfold In3 In at hp; exact hp
  obtain ⟨x0, hx0⟩ : ∃ x, X + A = x := ⟨_, rfl⟩
  obtain ⟨y0, hy0⟩ : ∃ x, Y + B = x := ⟨_, rfl⟩
  obtain ⟨z0, hz0⟩ : ∃ x, Z + C = x := ⟨_, rfl⟩
  have e1 : IntKind.i64.wrap (X + A) = x0 := by rw [hx0, IntKind.wrap_i64]; omega
  have e2 : IntKind.i64.wrap (Y + B) = y0 := by rw [hy0, IntKind.wrap_i64]; omega
  have e3 : IntKind.i64.wrap (Z + C) = z0 := by rw [hz0, IntKind.wrap_i64]; omega
  obtain ⟨x, hx⟩ : ∃ x, mn2 (mx2 x0 (-100000000000)) 100000000000 = x := ⟨_, rfl⟩
  obtain ⟨y, hy⟩ : ∃ x, mn2 (mx2 y0 (-100000000000)) 100000000000 = x := ⟨_, rfl⟩
  obtain ⟨z, hz⟩ : ∃ x, mn2 (mx2 z0 (-100000000000)) 100000000000 = x := ⟨_, rfl⟩
  obtain ⟨a, ha⟩ : ∃ x', x - X = x' := ⟨_, rfl⟩
  obtain ⟨b, hb⟩ : ∃ x', y - Y = x' := ⟨_, rfl⟩
  obtain ⟨c, hc⟩ : ∃ x', z - Z = x' := ⟨_, rfl⟩
  have q1 := clamp_ok hpb.1 hvb.1 hx0 hx ha
  have q2 := clamp_ok hpb.2.1 hvb.2.1 hy0 hy hb
  have q3 := clamp_ok hpb.2.2 hvb.2.2 hz0 hz hc
  have hx9 := Lib.hid hx
  have hy9 := Lib.hid hy
  have hz9 := Lib.hid hz
  clear hx hy hz
  have hxI : In3 100000000000 x y z := ⟨q1.1, q2.1, q3.1⟩
  have hak : (-k ≤ a ∧ a ≤ k) ∧ (-k ≤ b ∧ b ≤ k) ∧ (-k ≤ c ∧ c ≤ k) := ⟨q1.2.1, q2.2.1, q3.2.1⟩
  have e4 : IntKind.i64.wrap (x - X) = a := by rw [ha, IntKind.wrap_i64]; omega
  have e5 : IntKind.i64.wrap (y - Y) = b := by rw [hb, IntKind.wrap_i64]; omega
  have e6 : IntKind.i64.wrap (z - Z) = c := by rw [hc, IntKind.wrap_i64]; omega
  obtain ⟨a', ha'⟩ : ∃ t, -a = t := ⟨_, rfl⟩
  obtain ⟨b', hb'⟩ : ∃ t, -b = t := ⟨_, rfl⟩
  obtain ⟨c', hc'⟩ : ∃ t, -c = t := ⟨_, rfl⟩
  have na : IntKind.i64.wrap (-a) = a' := by rw [ha', IntKind.wrap_i64]; omega
  have nb : IntKind.i64.wrap (-b) = b' := by rw [hb', IntKind.wrap_i64]; omega
  have nc : IntKind.i64.wrap (-c) = c' := by rw [hc', IntKind.wrap_i64]; omega
  obtain ⟨m2, hm2⟩ : ∃ m, mx6 a a' b b' c c' = m := ⟨_, rfl⟩
  have hm2' : In3 100000000000 a b c ↔ m2 ≤ 100000000000 := by rw [← hm2, mx6_le]; unfold In3 In; omega
  by_cases hmm : 100000000000 < m2
  · as_aux_lemma =>
      clear hm2' ha' hb' hc' ha hb hc hak hxI hvb hpb hp hq hr hr4 hk0 hk hk2 hm hr1 ht1 ht0 hr2 hv hx0 hy0 hz0 q1 q2 q3
      have hx := hx9.out
      have hy := hy9.out
      have hz := hz9.out
      go_upto_region 10 with fail
      ((try simp only [G.drew_eq, G.drewN_eq]); (refine G.any_mark _ ?_; (try generalize Array.size (World.heap (G.w _)) = bk); (try dsimp only [List.set_cons_zero, List.set_cons_succ]); (try clear g); intro g))
      go_upto_region 11 with fail
      ((try simp only [G.drew_eq, G.drewN_eq]); (refine G.any_mark _ ?_; (try generalize Array.size (World.heap (G.w _)) = bk); (try dsimp only [List.set_cons_zero, List.set_cons_succ]); (try clear g); intro g))
      clear hx hy hz e1 e2 e3 e4 e5 e6 u1
      clear hx9 hy9 hz9
      go_wp2_with (with_reducible refine G.any_mark _ ?_; (try generalize Array.size (World.heap (G.w _)) = bk); (try dsimp only [List.set_cons_zero, List.set_cons_succ]); (try clear g); intro g)
      go_ret
      exact ⟨rfl, G.below _⟩
  have haI := hm2'.2 (by omega)
  obtain ⟨u, v, s, L, Yr, sl, CD, CA, CY, CS, hsl1, hLb, hYb, lin2⟩ := lin_at hp hq hr hr4 (by omega) hk0 (by omega) hk2 hxI ha hb hc hak haI
  have CD := Lib.hid CD
  have CA := Lib.hid CA
  have CY := Lib.hid CY
  have CS := Lib.hid CS
  have CC := Lib.hid (fun w => dcurve_any r k2 w)
  have hr0 := hr.1
  have hcX : curveX r k2 = (if curveN r k2 < 9223372036854775808 then (((curveN r k2 : Nat) : Int), 0) else (0, 5)) := if_pos ⟨by unfold Way; omega, by unfold Way; omega, by omega⟩
  clear q1 q2 q3 hvb hpb hp hq hv hxI hak haI ha hb hc ha' hb' hc' hm2' hx0 hy0 hz0
  have hx := hx9.out
  have hy := hy9.out
  have hz := hz9.out
  obtain ⟨rl, hrl⟩ : ∃ x, r - L = x := ⟨_, rfl⟩
  obtain ⟨of, hof⟩ : ∃ x, Yr - rl = x := ⟨_, rfl⟩
  obtain ⟨no, hno⟩ : ∃ x, -of = x := ⟨_, rfl⟩
  obtain ⟨s2, hss⟩ : ∃ x, sl + 2 = x := ⟨_, rfl⟩
  have g1 : IntKind.i64.wrap (r - L) = rl := by rw [hrl, IntKind.wrap_i64]; omega
  have g2 : IntKind.i64.wrap (Yr - rl) = of := by rw [hof, IntKind.wrap_i64]; omega
  have g3 : IntKind.i64.wrap (-of) = no := by rw [hno, IntKind.wrap_i64]; omega
  have g4 : IntKind.i64.wrap (sl + 2) = s2 := by rw [hss, IntKind.wrap_i64]; omega
  have HF := Lib.hid (And.intro hof (And.intro hno (And.intro hrl hss)))
  rw [hrl, hof, hno, hss] at lin2
  generalize hcn : curveN r k2 = cn at *
  have ofb : of < 9223372036854775808 ∧ no < 9223372036854775808 := by omega
  have hmm' : ¬ 100000000000 < m2 := hmm
  clear hLb hYb hr hr4 hk0 hk hk2 hm hr1 ht1 ht0 hr2 hmm hr0 hof hno hrl hss hx9 hy9 hz9
  by_cases hcv : cn < 9223372036854775808
  · rw [if_pos hcv] at hcX
    rw [hcX] at CC
    have CB := Lib.hid (fun w => addX (cn : Int) s2 (by unfold Fx.R64; omega) (by unfold Fx.R64; have := HF.out; omega) w)
    obtain ⟨li, hli⟩ : ∃ x, sat ((cn : Int) + s2) = x := ⟨_, rfl⟩
    rw [hli] at CB
    have q1 : of ≤ li := by rw [← hli]; exact sat_ge lin2.1 ofb.1 (by have := HF.out; omega)
    have q2 : no ≤ li := by rw [← hli]; exact sat_ge lin2.2 ofb.2 (by have := HF.out; omega)
    have q3 : ¬ ((cn : Int) < 0) := by omega
    have q4 : (0 : Int) ≤ (cn : Int) := by omega
    clear lin2 ofb hcX hli hsl1 HF hcv
    generalize (cn : Int) = cc at *
    have HH := Lib.hid (And.intro CA (And.intro CC (And.intro CS (And.intro CY CB))))
    clear CA CC CS CY CB
    as_aux_lemma =>
      go_upto_region 10 with fail
      ((try simp only [G.drew_eq, G.drewN_eq]); (refine G.any_mark _ ?_; (try generalize Array.size (World.heap (G.w _)) = bk); (try dsimp only [List.set_cons_zero, List.set_cons_succ]); (try clear g); intro g))
      go_upto_region 11 with fail
      ((try simp only [G.drew_eq, G.drewN_eq]); (refine G.any_mark _ ?_; (try generalize Array.size (World.heap (G.w _)) = bk); (try dsimp only [List.set_cons_zero, List.set_cons_succ]); (try clear g); intro g))
      clear hx hy hz e1 e2 e3 e4 e5 e6
      go_wp2_with (with_reducible refine G.any_mark _ ?_; (try generalize Array.size (World.heap (G.w _)) = bk); (try dsimp only [List.set_cons_zero, List.set_cons_succ]); (try clear g); intro g)
      refine (CD.out _).mono ?_
      rintro e w1 ⟨rfl, hb⟩
      obtain ⟨g1, rfl⟩ := G.call_ex _ hb
      clear hb
      (try clear g)
      revert g1
      intro g
      clear CD
      go_upto_region 14 with fail
      ((try simp only [G.drew_eq, G.drewN_eq]); (refine G.any_mark _ ?_; (try generalize Array.size (World.heap (G.w _)) = bk); (try dsimp only [List.set_cons_zero, List.set_cons_succ]); (try clear g); intro g))
      go_wp2_with (with_reducible refine G.any_mark _ ?_; (try generalize Array.size (World.heap (G.w _)) = bk); (try dsimp only [List.set_cons_zero, List.set_cons_succ]); (try clear g); intro g)
      refine (HH.out.1.out _).mono ?_
      rintro e w1 ⟨rfl, hb⟩
      obtain ⟨g1, rfl⟩ := G.call_ex _ hb
      clear hb
      (try clear g)
      revert g1
      intro g
      go_wp2_with (with_reducible refine G.any_mark _ ?_; (try generalize Array.size (World.heap (G.w _)) = bk); (try dsimp only [List.set_cons_zero, List.set_cons_succ]); (try clear g); intro g)
      refine (HH.out.2.1.out _).mono ?_
      rintro e w1 ⟨rfl, hb⟩
      obtain ⟨g1, rfl⟩ := G.call_ex _ hb
      clear hb
      (try clear g)
      revert g1
      intro g
      go_wp2_with (with_reducible refine G.any_mark _ ?_; (try generalize Array.size (World.heap (G.w _)) = bk); (try dsimp only [List.set_cons_zero, List.set_cons_succ]); (try clear g); intro g)
      refine (HH.out.2.2.1.out _).mono ?_
      rintro e w1 ⟨rfl, hb⟩
      obtain ⟨g1, rfl⟩ := G.call_ex _ hb
      clear hb
      (try clear g)
      revert g1
      intro g
      go_wp2_with (with_reducible refine G.any_mark _ ?_; (try generalize Array.size (World.heap (G.w _)) = bk); (try dsimp only [List.set_cons_zero, List.set_cons_succ]); (try clear g); intro g)
      refine (HH.out.2.2.2.1.out _).mono ?_
      rintro e w1 ⟨rfl, hb⟩
      obtain ⟨g1, rfl⟩ := G.call_ex _ hb
      clear hb
      (try clear g)
      revert g1
      intro g
      go_wp2_with (with_reducible refine G.any_mark _ ?_; (try generalize Array.size (World.heap (G.w _)) = bk); (try dsimp only [List.set_cons_zero, List.set_cons_succ]); (try clear g); intro g)
      refine (HH.out.2.2.2.2.out _).mono ?_
      rintro e w1 ⟨rfl, hb⟩
      obtain ⟨g1, rfl⟩ := G.call_ex _ hb
      clear hb
      (try clear g)
      revert g1
      intro g
      clear HH
      go_wp2_with (with_reducible refine G.any_mark _ ?_; (try generalize Array.size (World.heap (G.w _)) = bk); (try dsimp only [List.set_cons_zero, List.set_cons_succ]); (try clear g); intro g)
      go_ret
      exact ⟨by simp, G.below _⟩
  · rw [if_neg hcv] at hcX
    rw [hcX] at CC
    clear lin2 ofb hcX hsl1 HF hcv
    have HH := Lib.hid (And.intro CA (And.intro CC (And.intro CS CY)))
    clear CA CC CS CY
    as_aux_lemma =>
      go_upto_region 10 with fail
      ((try simp only [G.drew_eq, G.drewN_eq]); (refine G.any_mark _ ?_; (try generalize Array.size (World.heap (G.w _)) = bk); (try dsimp only [List.set_cons_zero, List.set_cons_succ]); (try clear g); intro g))
      go_upto_region 11 with fail
      ((try simp only [G.drew_eq, G.drewN_eq]); (refine G.any_mark _ ?_; (try generalize Array.size (World.heap (G.w _)) = bk); (try dsimp only [List.set_cons_zero, List.set_cons_succ]); (try clear g); intro g))
      clear hx hy hz e1 e2 e3 e4 e5 e6
      go_wp2_with (with_reducible refine G.any_mark _ ?_; (try generalize Array.size (World.heap (G.w _)) = bk); (try dsimp only [List.set_cons_zero, List.set_cons_succ]); (try clear g); intro g)
      refine (CD.out _).mono ?_
      rintro e w1 ⟨rfl, hb⟩
      obtain ⟨g1, rfl⟩ := G.call_ex _ hb
      clear hb
      (try clear g)
      revert g1
      intro g
      clear CD
      go_upto_region 14 with fail
      ((try simp only [G.drew_eq, G.drewN_eq]); (refine G.any_mark _ ?_; (try generalize Array.size (World.heap (G.w _)) = bk); (try dsimp only [List.set_cons_zero, List.set_cons_succ]); (try clear g); intro g))
      go_wp2_with (with_reducible refine G.any_mark _ ?_; (try generalize Array.size (World.heap (G.w _)) = bk); (try dsimp only [List.set_cons_zero, List.set_cons_succ]); (try clear g); intro g)
      refine (HH.out.1.out _).mono ?_
      rintro e w1 ⟨rfl, hb⟩
      obtain ⟨g1, rfl⟩ := G.call_ex _ hb
      clear hb
      (try clear g)
      revert g1
      intro g
      go_wp2_with (with_reducible refine G.any_mark _ ?_; (try generalize Array.size (World.heap (G.w _)) = bk); (try dsimp only [List.set_cons_zero, List.set_cons_succ]); (try clear g); intro g)
      refine (HH.out.2.1.out _).mono ?_
      rintro e w1 ⟨rfl, hb⟩
      obtain ⟨g1, rfl⟩ := G.call_ex _ hb
      clear hb
      (try clear g)
      revert g1
      intro g
      go_wp2_with (with_reducible refine G.any_mark _ ?_; (try generalize Array.size (World.heap (G.w _)) = bk); (try dsimp only [List.set_cons_zero, List.set_cons_succ]); (try clear g); intro g)
      refine (HH.out.2.2.1.out _).mono ?_
      rintro e w1 ⟨rfl, hb⟩
      obtain ⟨g1, rfl⟩ := G.call_ex _ hb
      clear hb
      (try clear g)
      revert g1
      intro g
      go_wp2_with (with_reducible refine G.any_mark _ ?_; (try generalize Array.size (World.heap (G.w _)) = bk); (try dsimp only [List.set_cons_zero, List.set_cons_succ]); (try clear g); intro g)
      refine (HH.out.2.2.2.out _).mono ?_
      rintro e w1 ⟨rfl, hb⟩
      obtain ⟨g1, rfl⟩ := G.call_ex _ hb
      clear hb
      (try clear g)
      revert g1
      intro g
      clear HH
      go_wp2_with (with_reducible refine G.any_mark _ ?_; (try generalize Array.size (World.heap (G.w _)) = bk); (try dsimp only [List.set_cons_zero, List.set_cons_succ]); (try clear g); intro g)
      go_ret
      exact ⟨rfl, G.below _⟩
end Go.Proofs.Ytodigegjngnknaa
