/- Plain facts and contracts of functions of the program, out of walks. Their conditions stand ahead of each. -/
import Derived.Test.YtodigegjngnknaaDe1
import Derived.Test.YtodigegjngnknaaDe37
import Derived.Below
import Derived.BigQuiet
import Derived.Deep.DeepCutAuto
import Derived.Deep.Draws
import Derived.Deep.LoopGhost
import Derived.Deep.QuietTactic
import Derived.Deep.RegionHeld3
import Derived.Deep.WholeRow
import Derived.Defers
import Derived.Great.BuildSlice
import Derived.Laws.Bits128
import Derived.Laws.BitsLemmas
import Derived.Laws.BytesString
import Derived.Laws.Cells
import Derived.Laws.CopyOwn
import Derived.Laws.Externs
import Derived.Laws.IdiomStrings
import Derived.Laws.NewBlocks
import Derived.Laws.OwnMore
import Derived.Laws.Pointers
import Derived.Laws.Rows
import Derived.Lib.BitFns
import Derived.Lib.Hide
import Derived.Lib.ItoaNum
import Derived.Lib.MinMax
import Derived.LoopIn
import Derived.LoopNIn
import Derived.Maps.AppendAt
import Derived.OrdersIn
import Derived.OwnWalk
import Derived.OwnWalkIn
import Derived.RangeFuncBound
import Derived.RangeFuncBox
import Derived.RangeFuncCalls
import Derived.RangeFuncLeaves
import Derived.RangeFuncNested
import Derived.RowKit3
import Derived.Shelf.Abstract
import Derived.Shelf.RegionOpen
import Derived.StillTactics
import Derived.StillTailTactics
import Derived.TacticsInMore
import Derived.Test.YtodigegjngnknaaProg
import Derived.WalkKit
import Derived.WalkLawsBesides
import Derived.WalkMore
import Derived.WalkSpells
set_option linter.unusedVariables false
set_option linter.unusedSimpArgs false
set_option exponentiation.threshold 10000
namespace Go.Proofs.Ytodigegjngnknaa
open Go.RowKit GW NL Go.Proofs.Ytodigegjngnknaa.X
attribute [local go_sem ↓] run_mx6 run_eq_pt run_ne_pt
attribute [local go_sem] eq3_self
set_option maxRecDepth 20000 in
set_option maxHeartbeats 40000000 in
theorem units_walk (a1 a2 a3 b1 b2 b3 : Int) (ha1 : I64 a1) (ha2 : I64 a2) (ha3 : I64 a3) (hb1 : I64 b1) (hb2 : I64 b2) (hb3 : I64 b3) (w : World) :
    Calls Try.prog 5 #[.agg #[.int .i64 a1, .int .i64 a2, .int .i64 a3], .agg #[.int .i64 b1, .int .i64 b2, .int .i64 b3]] w fun e w' => e = .returned (.bool true) ∧ Below w.heap.size w w' := by
  refine calls_b fun g => ?_
  have N1 := Lib.hid (fun w => lnear_any a1 a2 a3 ha1 ha2 ha3 w)
  have N2 := Lib.hid (fun w => lnear_any b1 b2 b3 hb1 hb2 hb3 w)
  clear ha1 ha2 ha3 hb1 hb2 hb3
  go_enter Try.func5, Try.ntmps5
  go_wp2_with (with_reducible refine G.any_mark _ ?_; (try generalize Array.size (World.heap (G.w _)) = bk); (try dsimp only [List.set_cons_zero, List.set_cons_succ]); (try clear g); intro g)
  go_cut [5, 6] (fun r5 r6 wx => ∃ (X Y Z U V W : Int) (pb qb ba bb : Nat) (g : G w [] [(qb, 23, [.int .i64 U, .int .i64 V, .int .i64 W]), (pb, 23, [.int .i64 X, .int .i64 Y, .int .i64 Z]), (bb, 23, [.int .i64 b1, .int .i64 b2, .int .i64 b3]), (ba, 23, [.int .i64 a1, .int .i64 a2, .int .i64 a3])] [heapOf w]), In3 100000000000 X Y Z ∧ In3 100000000000 U V W ∧ r5 = .pointer (some ⟨pb, 0, none⟩) ∧ r6 = .pointer (some ⟨qb, 0, none⟩) ∧ wx = g.w)
  case first =>
    go_region_held3 (G.heldN g [true, true]) (simp [G.heldN, HeldN, go_sem]) (first
      | (go_at_call 10; first
          | ((with_reducible refine (N1.out _).mono ?_); rintro e w1 ⟨XN1, YN1, ZN1, hN1, rfl, hb⟩; obtain ⟨g1, rfl⟩ := G.call_ex _ hb; clear hb N1; (try clear g); revert g1; intro g)
          | ((with_reducible refine (N2.out _).mono ?_); rintro e w1 ⟨XN2, YN2, ZN2, hN2, rfl, hb⟩; obtain ⟨g1, rfl⟩ := G.call_ex _ hb; clear hb N2; (try clear g); revert g1; intro g))
      | fail)
    all_goals (first | ((try simp only [G.drew_eq, G.drewN_eq]); (refine G.any_mark _ ?_; (try clear g); intro g)) | skip)
    all_goals go_wp2_with fail
    all_goals go_meet
    all_goals first
      | exact ⟨_, _, _, _, _, _, _, _, _, _, g, hN1, hN2, rfl, rfl, rfl⟩
      | (obtain ⟨g', hg⟩ := G.perm g (List.Perm.swap _ _ _)
         exact ⟨_, _, _, _, _, _, _, _, _, _, g', hN1, hN2, rfl, rfl, hg⟩)
  case rest =>
  obtain ⟨X, Y, Z, U, V, W, pb, qb, ba, bb, g, hp, hq, rfl, rfl, rfl⟩ := hcut
  clear N1 N2
  have CL := Lib.hid lives_ok
  by_cases he : X = U ∧ Y = V ∧ Z = W
  · obtain ⟨rfl, rfl, rfl⟩ := he
    have C1 := Lib.hid (fun w => ddir_eq X Y Z hp w)
    clear hp hq
    go_wp2_with (with_reducible refine G.any_mark _ ?_; (try generalize Array.size (World.heap (G.w _)) = bk); (try dsimp only [List.set_cons_zero, List.set_cons_succ]); (try clear g); intro g)
    refine (C1.out _).mono ?_
    rintro e w1 ⟨rfl, hb⟩
    obtain ⟨g1, rfl⟩ := G.call_ex _ hb
    clear hb
    (try clear g)
    revert g1
    intro g
    go_wp2_with (with_reducible refine G.any_mark _ ?_; (try generalize Array.size (World.heap (G.w _)) = bk); (try dsimp only [List.set_cons_zero, List.set_cons_succ]); (try clear g); intro g)
    refine (C1.out _).mono ?_
    rintro e w1 ⟨rfl, hb⟩
    obtain ⟨g1, rfl⟩ := G.call_ex _ hb
    clear hb
    (try clear g)
    revert g1
    intro g
    go_wp2_with (with_reducible refine G.any_mark _ ?_; (try generalize Array.size (World.heap (G.w _)) = bk); (try dsimp only [List.set_cons_zero, List.set_cons_succ]); (try clear g); intro g)
    refine (CL.out _).mono ?_
    rintro e w1 ⟨rfl, hb⟩
    obtain ⟨g1, rfl⟩ := G.call_ex _ hb
    clear hb
    (try clear g)
    revert g1
    intro g
    go_wp2_with (with_reducible refine G.any_mark _ ?_; (try generalize Array.size (World.heap (G.w _)) = bk); (try dsimp only [List.set_cons_zero, List.set_cons_succ]); (try clear g); intro g)
    go_ret
    exact ⟨rfl, G.below _⟩
  · have hD := D_pos (D := _) rfl rfl rfl he rfl
    obtain ⟨x, hx⟩ := Dir1.ex (a := U - X) hD (by omega)
    obtain ⟨y, hy⟩ := Dir1.ex (a := V - Y) hD (by omega)
    obtain ⟨z, hz⟩ := Dir1.ex (a := W - Z) hD (by omega)
    obtain ⟨a, ha⟩ : ∃ a, U - X = a := ⟨_, rfl⟩
    obtain ⟨b, hb⟩ : ∃ a, V - Y = a := ⟨_, rfl⟩
    obtain ⟨c, hc⟩ : ∃ a, W - Z = a := ⟨_, rfl⟩
    rw [ha, hb, hc] at hD hx hy hz
    obtain ⟨D, hDD⟩ : ∃ D, a.natAbs * a.natAbs + b.natAbs * b.natAbs + c.natAbs * c.natAbs = D := ⟨_, rfl⟩
    rw [hDD] at hD hx hy hz
    have C1 := Lib.hid (fun w => ddir_yes X Y Z U V W a b c x y z D ha hb hc hp hq he hDD hx hy hz w)
    obtain ⟨x', hx'⟩ : ∃ x', -x = x' := ⟨_, rfl⟩
    obtain ⟨y', hy'⟩ : ∃ x', -y = x' := ⟨_, rfl⟩
    obtain ⟨z', hz'⟩ : ∃ x', -z = x' := ⟨_, rfl⟩
    have C2 := Lib.hid (fun w => ddir_yes U V W X Y Z (-a) (-b) (-c) x' y' z' D (by omega) (by omega) (by omega) hq hp (by omega) (by rw [Int.natAbs_neg, Int.natAbs_neg, Int.natAbs_neg]; exact hDD) (hx' ▸ hx.flip hD) (hy' ▸ hy.flip hD) (hz' ▸ hz.flip hD) w)
    obtain ⟨r, hr, hr4, K1, _⟩ := range_at X Y Z U V W hp hq
    have C3 := Lib.hid K1
    have hdd : dd X Y Z U V W = (D : Int) := by
      unfold dd
      rw [ha, hb, hc, ← hDD]
      simp [Int.natAbs_mul_self']
    rw [hdd] at hr
    obtain ⟨bx, by', bz, off, sx, sy, sz, al⟩ := units_plain hD hDD hx hy hz hr
    obtain ⟨da, db, dc⟩ := hp.diff hq
    rw [ha] at da
    rw [hb] at db
    rw [hc] at dc
    have C4 : Hid (In3 100000000000 a b c → ∀ w, Calls Try.prog 21 #[.agg #[.int .i64 x, .int .i64 y, .int .i64 z], .agg #[.int .i64 a, .int .i64 b, .int .i64 c]] w fun e w' => e = .returned (.tuple #[.int .i64 (DI.rnd (x * a + y * b + z * c)), .int .i64 0]) ∧ Below w.heap.size w w') :=
      Lib.hid (fun h w => dalong_yes x y z a b c (by unfold In3 In; omega) h w)
    generalize DI.rnd (x * a + y * b + z * c) = A at *
    have HR := Lib.hid hr.1
    obtain ⟨K, hK⟩ : ∃ K, r / 1073741824 + 3 = K := ⟨_, rfl⟩
    have hr0 := hr.1
    have kw1 : IntKind.i64.wrap (r / 1073741824 + 3) = K := by rw [hK, IntKind.wrap_i64]; omega
    have kw2 : IntKind.i64.wrap (r + K) = r + K := by rw [IntKind.wrap_i64]; omega
    have kw3 : IntKind.i64.wrap (r - K) = r - K := by rw [IntKind.wrap_i64]; omega
    rw [hK] at al
    have al1 := al.1
    have al2 := al.2
    clear hr0 hK
    have wx1 : IntKind.i64.wrap (-x) = x' := by rw [IntKind.wrap_i64]; omega
    have wx2 : IntKind.i64.wrap (-x') = x := by rw [IntKind.wrap_i64]; omega
    have wy1 : IntKind.i64.wrap (-y) = y' := by rw [IntKind.wrap_i64]; omega
    have wy2 : IntKind.i64.wrap (-y') = y := by rw [IntKind.wrap_i64]; omega
    have wz1 : IntKind.i64.wrap (-z) = z' := by rw [IntKind.wrap_i64]; omega
    have wz2 : IntKind.i64.wrap (-z') = z := by rw [IntKind.wrap_i64]; omega
    obtain ⟨m1, hm1⟩ : ∃ m, mx6 x x' y y' z z' = m := ⟨_, rfl⟩
    have hm1' : ¬ 1073741824 < m1 := by rw [← hm1, Int.not_lt, mx6_le]; omega
    obtain ⟨a', ha'⟩ : ∃ t, -a = t := ⟨_, rfl⟩
    obtain ⟨b', hb'⟩ : ∃ t, -b = t := ⟨_, rfl⟩
    obtain ⟨c', hc'⟩ : ∃ t, -c = t := ⟨_, rfl⟩
    have na : IntKind.i64.wrap (-a) = a' := by rw [ha', IntKind.wrap_i64]; omega
    have nb : IntKind.i64.wrap (-b) = b' := by rw [hb', IntKind.wrap_i64]; omega
    have nc : IntKind.i64.wrap (-c) = c' := by rw [hc', IntKind.wrap_i64]; omega
    obtain ⟨m2, hm2⟩ : ∃ m, mx6 a a' b b' c c' = m := ⟨_, rfl⟩
    have hm2' : In3 100000000000 a b c ↔ m2 ≤ 100000000000 := by rw [← hm2, mx6_le]; unfold In3 In; omega
    have q1 := sq_bd bx
    have q2 := sq_bd by'
    have q3 := sq_bd bz
    obtain ⟨xx, hxx⟩ : ∃ m, x * x = m := ⟨_, rfl⟩
    obtain ⟨yy, hyy⟩ : ∃ m, y * y = m := ⟨_, rfl⟩
    obtain ⟨zz, hzz⟩ : ∃ m, z * z = m := ⟨_, rfl⟩
    rw [hxx] at q1 off
    rw [hyy] at q2 off
    rw [hzz] at q3 off
    obtain ⟨o, ho⟩ : ∃ m, xx + yy + zz - 1152921504606846976 = m := ⟨_, rfl⟩
    rw [ho] at off
    have v1 : IntKind.i64.wrap xx = xx := by rw [IntKind.wrap_i64]; omega
    have v2 : IntKind.i64.wrap yy = yy := by rw [IntKind.wrap_i64]; omega
    have v3 : IntKind.i64.wrap zz = zz := by rw [IntKind.wrap_i64]; omega
    have v4 : IntKind.i64.wrap (xx + yy) = xx + yy := by rw [IntKind.wrap_i64]; omega
    have v5 : IntKind.i64.wrap (xx + yy + zz) = xx + yy + zz := by rw [IntKind.wrap_i64]; omega
    have v6 : IntKind.i64.wrap (xx + yy + zz - 1152921504606846976) = o := by rw [ho, IntKind.wrap_i64]; omega
    have o1 : ¬ 4294967296 ≤ o := by omega
    have o2 : ¬ o ≤ -4294967296 := by omega
    have S1 := Lib.hid (fun w => lsigns_no x a sx.1 sx.2 w)
    have S2 := Lib.hid (fun w => lsigns_no y b sy.1 sy.2 w)
    have S3 := Lib.hid (fun w => lsigns_no z c sz.1 sz.2 w)
    have d1 : IntKind.i64.wrap (U - X) = a := by rw [ha]; exact wrap_sm da
    have d2 : IntKind.i64.wrap (V - Y) = b := by rw [hb]; exact wrap_sm db
    have d3 : IntKind.i64.wrap (W - Z) = c := by rw [hc]; exact wrap_sm dc
    have HM := Lib.hid hm2'
    have HO := Lib.hid ho
    clear hm2' ho q1 q2 q3 ha' hb' hc'
    have HX := Lib.hid (And.intro hx' (And.intro hy' hz'))
    clear hx' hy' hz'
    have HF := Lib.hid (And.intro bx (And.intro by' (And.intro bz (And.intro off (And.intro sx (And.intro sy (And.intro sz (And.intro al (And.intro da (And.intro db (And.intro dc hr4)))))))))))
    have HE := Lib.hid (And.intro ha (And.intro hb hc))
    have HN := Lib.hid he
    clear bx by' bz off sx sy sz al da db dc hr4 ha hb hc he K1 hr hdd hx hy hz hDD hD hp hq
    go_wp2_with (with_reducible refine G.any_mark _ ?_; (try generalize Array.size (World.heap (G.w _)) = bk); (try dsimp only [List.set_cons_zero, List.set_cons_succ]); (try clear g); intro g)
    refine (C1.out _).mono ?_
    rintro e w1 ⟨rfl, hb⟩
    obtain ⟨g1, rfl⟩ := G.call_ex _ hb
    clear hb
    (try clear g)
    revert g1
    intro g
    go_wp2_with (with_reducible refine G.any_mark _ ?_; (try generalize Array.size (World.heap (G.w _)) = bk); (try dsimp only [List.set_cons_zero, List.set_cons_succ]); (try clear g); intro g)
    refine (C2.out _).mono ?_
    rintro e w1 ⟨rfl, hb⟩
    obtain ⟨g1, rfl⟩ := G.call_ex _ hb
    clear hb
    (try clear g)
    revert g1
    intro g
    go_wp2_with (with_reducible refine G.any_mark _ ?_; (try generalize Array.size (World.heap (G.w _)) = bk); (try dsimp only [List.set_cons_zero, List.set_cons_succ]); (try clear g); intro g)
    refine (CL.out _).mono ?_
    rintro e w1 ⟨rfl, hb⟩
    obtain ⟨g1, rfl⟩ := G.call_ex _ hb
    clear hb
    (try clear g)
    revert g1
    intro g
    have h1 := eq3_ne HN.out
    clear C1 C2 CL
    as_aux_lemma =>
      go_wp2_with (with_reducible refine G.any_mark _ ?_; (try generalize Array.size (World.heap (G.w _)) = bk); (try dsimp only [List.set_cons_zero, List.set_cons_succ]); (try clear g); intro g)
      refine (S1.out _).mono ?_
      rintro e w1 ⟨rfl, hb⟩
      obtain ⟨g1, rfl⟩ := G.call_ex _ hb
      clear hb
      (try clear g)
      revert g1
      intro g
      go_wp2_with (with_reducible refine G.any_mark _ ?_; (try generalize Array.size (World.heap (G.w _)) = bk); (try dsimp only [List.set_cons_zero, List.set_cons_succ]); (try clear g); intro g)
      refine (S2.out _).mono ?_
      rintro e w1 ⟨rfl, hb⟩
      obtain ⟨g1, rfl⟩ := G.call_ex _ hb
      clear hb
      (try clear g)
      revert g1
      intro g
      go_wp2_with (with_reducible refine G.any_mark _ ?_; (try generalize Array.size (World.heap (G.w _)) = bk); (try dsimp only [List.set_cons_zero, List.set_cons_succ]); (try clear g); intro g)
      refine (S3.out _).mono ?_
      rintro e w1 ⟨rfl, hb⟩
      obtain ⟨g1, rfl⟩ := G.call_ex _ hb
      clear hb
      (try clear g)
      revert g1
      intro g
      by_cases hm : m2 ≤ 100000000000
      · have hI := HM.out.2 hm
        have CA := Lib.hid (C4.out hI)
        have hm' : ¬ 100000000000 < m2 := by omega
        clear hI hm C4 HM S1 S2 S3
        go_wp2_with (with_reducible refine G.any_mark _ ?_; (try generalize Array.size (World.heap (G.w _)) = bk); (try dsimp only [List.set_cons_zero, List.set_cons_succ]); (try clear g); intro g)
        refine (C3.out _).mono ?_
        rintro e w1 ⟨rfl, hb⟩
        obtain ⟨g1, rfl⟩ := G.call_ex _ hb
        clear hb
        (try clear g)
        revert g1
        intro g
        go_wp2_with (with_reducible refine G.any_mark _ ?_; (try generalize Array.size (World.heap (G.w _)) = bk); (try dsimp only [List.set_cons_zero, List.set_cons_succ]); (try clear g); intro g)
        refine (CA.out _).mono ?_
        rintro e w1 ⟨rfl, hb⟩
        obtain ⟨g1, rfl⟩ := G.call_ex _ hb
        clear hb
        (try clear g)
        revert g1
        intro g
        go_wp2_with (with_reducible refine G.any_mark _ ?_; (try generalize Array.size (World.heap (G.w _)) = bk); (try dsimp only [List.set_cons_zero, List.set_cons_succ]); (try clear g); intro g)
        go_ret
        exact ⟨by simp, G.below _⟩
      · have hm' : 100000000000 < m2 := by omega
        clear hm
        go_wp2_with (with_reducible refine G.any_mark _ ?_; (try generalize Array.size (World.heap (G.w _)) = bk); (try dsimp only [List.set_cons_zero, List.set_cons_succ]); (try clear g); intro g)
        go_ret
        exact ⟨rfl, G.below _⟩
end Go.Proofs.Ytodigegjngnknaa
namespace Go.Proofs.Ytodigegjngnknaa
open Go.RowKit GW NL Go.Proofs.Ytodigegjngnknaa.X
attribute [local go_sem ↓] run_mx6
theorem far_at {X Y Z U V W A B C r s h : Int} (hh : 0 ≤ h) (hr : IsRoot r (dd A B C U V W)) (hs : IsRoot s (dd X Y Z U V W)) (hv : (A - X) * (A - X) + (B - Y) * (B - Y) + (C - Z) * (C - Z) ≤ h * h) : r ≤ s + h := by
  refine DI.far (a := U - X) (b := V - Y) (c := W - Z) (x := X - A) (y := Y - B) (z := Z - C) hh hs.1 ?_ hs.2.2.2 ?_
  · have k := hr.2.2.1
    unfold dd at k
    rw [show U - X + (X - A) = U - A by omega, show V - Y + (Y - B) = V - B by omega, show W - Z + (Z - C) = W - C by omega]
    exact k
  · rw [flip_sq X A, flip_sq Y B, flip_sq Z C]
    exact hv
set_option maxRecDepth 20000 in
set_option maxHeartbeats 40000000 in
theorem spans_walk (a1 a2 a3 b1 b2 b3 c1 c2 c3 h : Int) (ha1 : I64 a1) (ha2 : I64 a2) (ha3 : I64 a3) (hb1 : I64 b1) (hb2 : I64 b2) (hb3 : I64 b3) (hc1 : I64 c1) (hc2 : I64 c2) (hc3 : I64 c3) (hh : I64 h) (w : World) :
    Calls Try.prog 4 #[.agg #[.int .i64 a1, .int .i64 a2, .int .i64 a3], .agg #[.int .i64 b1, .int .i64 b2, .int .i64 b3], .agg #[.int .i64 c1, .int .i64 c2, .int .i64 c3], .int .i64 h] w fun e w' => e = .returned (.bool true) ∧ Below w.heap.size w w' := by
  refine calls_b fun g => ?_
  have N1 := Lib.hid (fun w => lnear_any a1 a2 a3 ha1 ha2 ha3 w)
  have N2 := Lib.hid (fun w => lnear_any b1 b2 b3 hb1 hb2 hb3 w)
  have NH := Lib.hid (fun w => pick_i 400000000001 h (by decide) (by decide) hh w)
  have HC := Lib.hid (And.intro hc1 (And.intro hc2 hc3))
  clear ha1 ha2 ha3 hb1 hb2 hb3 hc1 hc2 hc3 hh
  go_enter Try.func4, Try.ntmps4
  go_wp2_with (with_reducible refine G.any_mark _ ?_; (try generalize Array.size (World.heap (G.w _)) = bk); (try dsimp only [List.set_cons_zero, List.set_cons_succ]); (try clear g); intro g)
  rename_i ba bb K9 hx9
  go_cut [9, 10] (fun r5 r6 wx => ∃ (X Y Z U V W : Int) (pb qb : Nat) (g : G w [] [(qb, 23, [.int .i64 U, .int .i64 V, .int .i64 W]), (pb, 23, [.int .i64 X, .int .i64 Y, .int .i64 Z]), (bk, 23, [.int .i64 c1, .int .i64 c2, .int .i64 c3]), (bb, 23, [.int .i64 b1, .int .i64 b2, .int .i64 b3]), (ba, 23, [.int .i64 a1, .int .i64 a2, .int .i64 a3])] [heapOf w]), In3 100000000000 X Y Z ∧ In3 100000000000 U V W ∧ r5 = .pointer (some ⟨pb, 0, none⟩) ∧ r6 = .pointer (some ⟨qb, 0, none⟩) ∧ wx = g.w)
  case first =>
    clear NH HC
    go_region_held3 (G.heldN g [true, true, true]) (simp [G.heldN, HeldN, go_sem]) (first
      | (go_at_call 10; first
          | ((with_reducible refine (N1.out _).mono ?_); rintro e w1 ⟨XN1, YN1, ZN1, hN1, rfl, hb⟩; obtain ⟨g1, rfl⟩ := G.call_ex _ hb; clear hb N1; (try clear g); revert g1; intro g)
          | ((with_reducible refine (N2.out _).mono ?_); rintro e w1 ⟨XN2, YN2, ZN2, hN2, rfl, hb⟩; obtain ⟨g1, rfl⟩ := G.call_ex _ hb; clear hb N2; (try clear g); revert g1; intro g))
      | fail)
    all_goals (first | ((try simp only [G.drew_eq, G.drewN_eq]); (refine G.any_mark _ ?_; (try clear g); intro g)) | skip)
    all_goals go_wp2_with fail
    all_goals go_meet
    all_goals first
      | exact ⟨_, _, _, _, _, _, _, _, g, hN1, hN2, rfl, rfl, rfl⟩
      | (obtain ⟨g', hg⟩ := G.perm g (List.Perm.swap _ _ _)
         exact ⟨_, _, _, _, _, _, _, _, g', hN1, hN2, rfl, rfl, hg⟩)
  case rest =>
  obtain ⟨X, Y, Z, U, V, W, pb, qb, g, hp, hq, rfl, rfl, rfl⟩ := hcut
  clear N1 N2
  have HP := Lib.hid (And.intro hp hq)
  clear hp hq
  go_wp2_with (with_reducible refine G.any_mark _ ?_; (try generalize Array.size (World.heap (G.w _)) = bk); (try dsimp only [List.set_cons_zero, List.set_cons_succ]); (try clear g); intro g)
  refine (NH.out _).mono ?_
  rintro e w1 ⟨k, ⟨hk0, hk⟩, rfl, hb⟩
  obtain ⟨g1, rfl⟩ := G.call_ex _ hb
  clear hb NH
  (try clear g)
  revert g1
  intro g
  obtain ⟨k2, hk2⟩ : ∃ k2, 2 * k = k2 := ⟨_, rfl⟩
  obtain ⟨m, hm⟩ : ∃ m, k2 + 1 = m := ⟨_, rfl⟩
  have V1 := Lib.hid (fun w => pick_i m c1 (by omega) (by omega) HC.out.1 w)
  have V2 := Lib.hid (fun w => pick_i m c2 (by omega) (by omega) HC.out.2.1 w)
  have V3 := Lib.hid (fun w => pick_i m c3 (by omega) (by omega) HC.out.2.2 w)
  have u1 : IntKind.i64.wrap (2 * k) = k2 := by rw [hk2, IntKind.wrap_i64]; omega
  have u2 : IntKind.i64.wrap (k2 + 1) = m := by rw [hm, IntKind.wrap_i64]; omega
  have uw : ∀ x : Int, 0 ≤ x → x < m → ∃ y, IntKind.i64.wrap (x - k) = y ∧ In k y := by intro x h1 h2; exact ⟨x - k, by rw [IntKind.wrap_i64]; omega, by unfold In; omega⟩
  have UW := Lib.hid uw
  have HK := Lib.hid (And.intro (And.intro hk0 hk) (And.intro hk2 hm))
  clear hk0 hk hk2 hm uw
  go_wp2_with (with_reducible refine G.any_mark _ ?_; (try generalize Array.size (World.heap (G.w _)) = bk); (try dsimp only [List.set_cons_zero, List.set_cons_succ]); (try clear g); intro g)
  go_cut [11] (fun r11 wx => ∃ (A B C : Int) (vb : Nat) (g : G w [] [(vb, 23, [.int .i64 A, .int .i64 B, .int .i64 C]), (qb, 23, [.int .i64 U, .int .i64 V, .int .i64 W]), (pb, 23, [.int .i64 X, .int .i64 Y, .int .i64 Z]), (bk, 23, [.int .i64 c1, .int .i64 c2, .int .i64 c3]), (bb, 23, [.int .i64 b1, .int .i64 b2, .int .i64 b3]), (ba, 23, [.int .i64 a1, .int .i64 a2, .int .i64 a3])] [heapOf w]), In3 k A B C ∧ r11 = .pointer (some ⟨vb, 0, none⟩) ∧ wx = g.w)
  case first =>
    go_region_held3 (G.heldN g [false, false, true, false, false]) (simp [G.heldN, HeldN, go_sem]) (first
      | (go_at_call 16; first
          | ((with_reducible refine (V1.out _).mono ?_); rintro e w1 ⟨x1, hx1, rfl, hb⟩; obtain ⟨y1, ux1, hy1⟩ := UW.out x1 hx1.1 hx1.2; replace hy1 := Lib.hid hy1; clear hx1; obtain ⟨g1, rfl⟩ := G.call_ex _ hb; clear hb V1; (try clear g); revert g1; intro g)
          | ((with_reducible refine (V2.out _).mono ?_); rintro e w1 ⟨x2, hx2, rfl, hb⟩; obtain ⟨y2, ux2, hy2⟩ := UW.out x2 hx2.1 hx2.2; replace hy2 := Lib.hid hy2; clear hx2; obtain ⟨g1, rfl⟩ := G.call_ex _ hb; clear hb V2; (try clear g); revert g1; intro g)
          | ((with_reducible refine (V3.out _).mono ?_); rintro e w1 ⟨x3, hx3, rfl, hb⟩; obtain ⟨y3, ux3, hy3⟩ := UW.out x3 hx3.1 hx3.2; replace hy3 := Lib.hid hy3; clear hx3; obtain ⟨g1, rfl⟩ := G.call_ex _ hb; clear hb V3; (try clear g); revert g1; intro g))
      | fail)
    all_goals (first | ((try simp only [G.drew_eq, G.drewN_eq]); (refine G.any_mark _ ?_; (try clear g); intro g)) | skip)
    all_goals go_wp2_with fail
    all_goals go_meet
    all_goals exact ⟨_, _, _, _, g, ⟨hy1.out, hy2.out, hy3.out⟩, rfl, rfl⟩
  case rest =>
  obtain ⟨A, B, C, vb, g, hv, rfl, rfl⟩ := hcut
  obtain ⟨hp, hq⟩ := HP.out
  obtain ⟨⟨hk0, hk⟩, hk2, hm⟩ := HK.out
  obtain ⟨r, hr, hr4, _, _⟩ := range_at X Y Z U V W hp hq
  obtain ⟨lo, hlo⟩ : ∃ lo, (if k ≤ r then r - k else 0) = lo := ⟨_, rfl⟩
  have CS := Lib.hid (fun w => dspan_yes X Y Z U V W _ _ _ _ r k lo rfl rfl rfl rfl hr hr4 hp hq (by unfold Way; omega) hlo w)
  have hr0 := hr.1
  have l1 : ¬ lo < 0 := by rw [← hlo]; split <;> omega
  obtain ⟨hi, hhi⟩ : ∃ hi, r + k = hi := ⟨_, rfl⟩
  rw [hhi] at CS
  have l2 : ¬ hi < lo := by rw [← hlo, ← hhi]; split <;> omega
  obtain ⟨x, hx⟩ : ∃ x, X + A = x := ⟨_, rfl⟩
  obtain ⟨y, hy⟩ : ∃ x, Y + B = x := ⟨_, rfl⟩
  obtain ⟨z, hz⟩ : ∃ x, Z + C = x := ⟨_, rfl⟩
  have hvb : (-k ≤ A ∧ A ≤ k) ∧ (-k ≤ B ∧ B ≤ k) ∧ (-k ≤ C ∧ C ≤ k) := by unfold In3 In at hv; exact hv
  have hpb : (-100000000000 ≤ X ∧ X ≤ 100000000000) ∧ (-100000000000 ≤ Y ∧ Y ≤ 100000000000) ∧ (-100000000000 ≤ Z ∧ Z ≤ 100000000000) := by unfold In3 In at hp; exact hp
  have e1 : IntKind.i64.wrap (X + A) = x := by rw [hx, IntKind.wrap_i64]; omega
  have e2 : IntKind.i64.wrap (Y + B) = y := by rw [hy, IntKind.wrap_i64]; omega
  have e3 : IntKind.i64.wrap (Z + C) = z := by rw [hz, IntKind.wrap_i64]; omega
  obtain ⟨N, hN⟩ : ∃ N, A * A + B * B + C * C = N := ⟨_, rfl⟩
  have CN := Lib.hid (fun w => rnormW A B C N (by omega) (by omega) (by omega) hN w)
  have CR := Lib.hid (fun w => rnear_any x y z w)
  obtain ⟨P, hPP⟩ : ∃ P, k * k = P := ⟨_, rfl⟩
  have CP := Lib.hid (fun w => rprodW k k P (by unfold Fx.R64; omega) (by unfold Fx.R64; omega) hPP w)
  have CC := Lib.hid (fun w => rcmpW N P w)
  have CL := Lib.hid lives_ok
  obtain ⟨c, hc⟩ : ∃ c, cmpI N P = c := ⟨_, rfl⟩
  rw [hc] at CC
  have FAR : In3 100000000000 x y z → ¬ 0 < c → ∃ r2 : Int, lo ≤ r2 ∧ r2 ≤ hi ∧ (∀ w, Calls Try.prog 11 #[.agg #[.int .i64 x, .int .i64 y, .int .i64 z], .agg #[.int .i64 U, .int .i64 V, .int .i64 W]] w fun e w' => e = .returned (.tuple #[.int .i64 r2, .int .i64 0]) ∧ Below w.heap.size w w') := by
    intro hxn hc0
    have hNP : N ≤ P := by rw [← hc] at hc0; unfold cmpI at hc0; revert hc0; split <;> (try split) <;> omega
    obtain ⟨r2, hr2, _, K, _⟩ := range_at x y z U V W hxn hq
    have f1 : r2 ≤ r + k := far_at (by omega) hr2 hr (by rw [← hx, ← hy, ← hz, show X + A - X = A by omega, show Y + B - Y = B by omega, show Z + C - Z = C by omega, hN, hPP]; exact hNP)
    have f2 : r ≤ r2 + k := far_at (by omega) hr hr2 (by rw [flip_sq X x, flip_sq Y y, flip_sq Z z, ← hx, ← hy, ← hz, show X + A - X = A by omega, show Y + B - Y = B by omega, show Z + C - Z = C by omega, hN, hPP]; exact hNP)
    have := hr2.1
    exact ⟨r2, by rw [← hlo]; split <;> omega, by omega, K⟩
  have FR := Lib.hid FAR
  generalize wh P = hP at *
  generalize wl P = lP at *
  generalize wh N = hN9 at *
  generalize wl N = lN at *
  clear FAR hr hr4 hr0 hlo hhi hx hy hz hvb hpb hN hPP hc hp hq hk0 hk hk2 hm hv HC HP HK UW
  go_wp2_with (with_reducible refine G.any_mark _ ?_; (try generalize Array.size (World.heap (G.w _)) = bk); (try dsimp only [List.set_cons_zero, List.set_cons_succ]); (try clear g); intro g)
  refine (CS.out _).mono ?_
  rintro e w1 ⟨rfl, hb⟩
  obtain ⟨g1, rfl⟩ := G.call_ex _ hb
  clear hb
  (try clear g)
  revert g1
  intro g
  go_wp2_with (with_reducible refine G.any_mark _ ?_; (try generalize Array.size (World.heap (G.w _)) = bk); (try dsimp only [List.set_cons_zero, List.set_cons_succ]); (try clear g); intro g)
  refine (CL.out _).mono ?_
  rintro e w1 ⟨rfl, hb⟩
  obtain ⟨g1, rfl⟩ := G.call_ex _ hb
  clear hb
  (try clear g)
  revert g1
  intro g
  go_wp2_with (with_reducible refine G.any_mark _ ?_; (try generalize Array.size (World.heap (G.w _)) = bk); (try dsimp only [List.set_cons_zero, List.set_cons_succ]); (try clear g); intro g)
  refine (CN.out _).mono ?_
  rintro e w1 ⟨rfl, hb⟩
  obtain ⟨g1, rfl⟩ := G.call_ex _ hb
  clear hb
  (try clear g)
  revert g1
  intro g
  go_wp2_with (with_reducible refine G.any_mark _ ?_; (try generalize Array.size (World.heap (G.w _)) = bk); (try dsimp only [List.set_cons_zero, List.set_cons_succ]); (try clear g); intro g)
  clear CS CL CN
  by_cases hxn : In3 100000000000 x y z
  · rw [decide_eq_true hxn] at CR
    by_cases hc0 : 0 < c
    · clear FR hxn
      ((try simp only [G.drew_eq, G.drewN_eq]); (refine G.any_mark _ ?_; (try generalize Array.size (World.heap (G.w _)) = bk); (try dsimp only [List.set_cons_zero, List.set_cons_succ]); (try clear g); intro g))
      go_region_held3 (G.heldN g [true, true]) (simp [G.heldN, HeldN, go_sem]) (first
        | (go_at_call 18; refine (CR.out _).mono ?_; rintro e w1 ⟨rfl, hb⟩; obtain ⟨g1, rfl⟩ := G.call_ex _ hb; clear hb; (try clear g); revert g1; intro g)
        | (go_at_call 15; refine (CP.out _).mono ?_; rintro e w1 ⟨rfl, hb⟩; obtain ⟨g1, rfl⟩ := G.call_ex _ hb; clear hb; (try clear g); revert g1; intro g)
        | (go_at_call 14; refine (CC.out _).mono ?_; rintro e w1 ⟨rfl, hb⟩; obtain ⟨g1, rfl⟩ := G.call_ex _ hb; clear hb; (try clear g); revert g1; intro g)
        | fail)
      all_goals (first | ((try simp only [G.drew_eq, G.drewN_eq]); (refine G.any_mark _ ?_; (try clear g); intro g)) | skip)
      go_wp2_with (with_reducible refine G.any_mark _ ?_; (try generalize Array.size (World.heap (G.w _)) = bk); (try dsimp only [List.set_cons_zero, List.set_cons_succ]); (try clear g); intro g)
      go_ret
      exact ⟨rfl, G.below _⟩
    · obtain ⟨r2, h1, h2, K⟩ := FR.out hxn (by omega)
      have CK := Lib.hid K
      clear FR hxn K
      ((try simp only [G.drew_eq, G.drewN_eq]); (refine G.any_mark _ ?_; (try generalize Array.size (World.heap (G.w _)) = bk); (try dsimp only [List.set_cons_zero, List.set_cons_succ]); (try clear g); intro g))
      go_region_held3 (G.heldN g [true, true]) (simp [G.heldN, HeldN, go_sem]) (first
        | (go_at_call 18; refine (CR.out _).mono ?_; rintro e w1 ⟨rfl, hb⟩; obtain ⟨g1, rfl⟩ := G.call_ex _ hb; clear hb; (try clear g); revert g1; intro g)
        | (go_at_call 15; refine (CP.out _).mono ?_; rintro e w1 ⟨rfl, hb⟩; obtain ⟨g1, rfl⟩ := G.call_ex _ hb; clear hb; (try clear g); revert g1; intro g)
        | (go_at_call 14; refine (CC.out _).mono ?_; rintro e w1 ⟨rfl, hb⟩; obtain ⟨g1, rfl⟩ := G.call_ex _ hb; clear hb; (try clear g); revert g1; intro g)
        | fail)
      all_goals (first | ((try simp only [G.drew_eq, G.drewN_eq]); (refine G.any_mark _ ?_; (try clear g); intro g)) | skip)
      go_wp2_with (with_reducible refine G.any_mark _ ?_; (try generalize Array.size (World.heap (G.w _)) = bk); (try dsimp only [List.set_cons_zero, List.set_cons_succ]); (try clear g); intro g)
      refine (CK.out _).mono ?_
      rintro e w1 ⟨rfl, hb⟩
      obtain ⟨g1, rfl⟩ := G.call_ex _ hb
      clear hb
      (try clear g)
      revert g1
      intro g
      go_wp2_with (with_reducible refine G.any_mark _ ?_; (try generalize Array.size (World.heap (G.w _)) = bk); (try dsimp only [List.set_cons_zero, List.set_cons_succ]); (try clear g); intro g)
      go_ret
      exact ⟨by simp, G.below _⟩
  · rw [decide_eq_false hxn] at CR
    clear FR hxn
    ((try simp only [G.drew_eq, G.drewN_eq]); (refine G.any_mark _ ?_; (try generalize Array.size (World.heap (G.w _)) = bk); (try dsimp only [List.set_cons_zero, List.set_cons_succ]); (try clear g); intro g))
    refine wp_region_held_drew (S := G.heldN g [true, true]) (by kernel_rfl) (by simp [G.heldN, HeldN, go_sem]) (fun hHeld => ?_)
    refine wpAnyH_take (i := 0) (v := ?_) rfl (by kernel_rfl) (by kernel_rfl) (by kernel_rfl) (fun _ _ _ h => h) (Or.inl ⟨by rfl, ?_⟩) (by assumption) ?_
    rotate_left 1
    · (intro w hSw; (try dsimp only at hSw); go_simp; (try with_reducible rfl))
    (try simp only [Act.put, List.setIfInBounds_toArray, List.set_cons_zero, List.set_cons_succ])
    refine wpAnyH_ready (rs := [1]) (by kernel_rfl) (by simp) ?_
    refine AllReadyH.cons rfl (fun K hK => ?_) AllReadyH.nil
    go_simp
    go_at_call 18
    refine (CR.out _).mono ?_
    rintro e w1 ⟨rfl, hb⟩
    obtain ⟨g1, rfl⟩ := G.call_ex _ hb
    clear hb
    (try clear g)
    revert g1
    intro g
    clear hHeld
    refine hK.out _ _ (by simp [G.heldN, HeldN, go_sem]) (fun hHeld => ?_)
    clear hK K
    (try simp only [Act.put, List.setIfInBounds_toArray, List.set_cons_zero, List.set_cons_succ])
    refine wpAnyH_take (i := 2) (v := ?_) rfl (by kernel_rfl) (by kernel_rfl) (by kernel_rfl) (fun _ _ _ h => h) (Or.inl ⟨by rfl, ?_⟩) (by assumption) ?_
    rotate_left 1
    · (intro w hSw; (try dsimp only at hSw); go_simp; (try with_reducible rfl))
    (try simp only [Act.put, List.setIfInBounds_toArray, List.set_cons_zero, List.set_cons_succ])
    refine wpAnyH_take (i := 3) (v := ?_) rfl (by kernel_rfl) (by kernel_rfl) (by kernel_rfl) (fun _ _ _ h => h) (Or.inl ⟨by rfl, ?_⟩) (by assumption) ?_
    rotate_left 1
    · (intro w hSw; (try dsimp only at hSw); go_simp; (try with_reducible rfl))
    (try simp only [Act.put, List.setIfInBounds_toArray, List.set_cons_zero, List.set_cons_succ])
    refine wpAnyH_take (i := 4) (v := undef) rfl (by kernel_rfl) (by kernel_rfl) (by kernel_rfl) (fun _ _ _ h => h) (Or.inr ⟨by rfl, rfl⟩) (by assumption) ?_
    (try simp only [Act.put, List.setIfInBounds_toArray, List.set_cons_zero, List.set_cons_succ])
    refine wpAnyH_take (i := 5) (v := undef) rfl (by kernel_rfl) (by kernel_rfl) (by kernel_rfl) (fun _ _ _ h => h) (Or.inr ⟨by rfl, rfl⟩) (by assumption) ?_
    (try simp only [Act.put, List.setIfInBounds_toArray, List.set_cons_zero, List.set_cons_succ])
    refine wpAnyH_take (i := 6) (v := undef) rfl (by kernel_rfl) (by kernel_rfl) (by kernel_rfl) (fun _ _ _ h => h) (Or.inr ⟨by rfl, rfl⟩) (by assumption) ?_
    (try simp only [Act.put, List.setIfInBounds_toArray, List.set_cons_zero, List.set_cons_succ])
    refine wpAnyH_ready (rs := [7]) (by kernel_rfl) (by simp) ?_
    refine AllReadyH.cons rfl (fun K hK => ?_) AllReadyH.nil
    go_simp
    refine hK.out _ _ hHeld (fun hHeld => ?_)
    clear hK K
    (try simp only [Act.put, List.setIfInBounds_toArray, List.set_cons_zero, List.set_cons_succ])
    refine wpAnyH_ready (rs := [8]) (by kernel_rfl) (by simp) ?_
    refine AllReadyH.cons rfl (fun K hK => ?_) AllReadyH.nil
    go_simp
    refine hK.out _ _ hHeld (fun hHeld => ?_)
    clear hK K
    (try simp only [Act.put, List.setIfInBounds_toArray, List.set_cons_zero, List.set_cons_succ])
    refine wpAnyH_ready (rs := [9]) (by kernel_rfl) (by simp) ?_
    refine AllReadyH.cons rfl (fun K hK => ?_) AllReadyH.nil
    go_simp
    refine hK.out _ _ hHeld (fun hHeld => ?_)
    clear hK K
    (try simp only [Act.put, List.setIfInBounds_toArray, List.set_cons_zero, List.set_cons_succ])
    refine wpAnyH_take (i := 10) (v := ?_) rfl (by kernel_rfl) (by kernel_rfl) (by kernel_rfl) (fun _ _ _ h => h) (Or.inl ⟨by rfl, ?_⟩) (by assumption) ?_
    rotate_left 1
    · (intro w hSw; (try dsimp only at hSw); go_simp; (try with_reducible rfl))
    (try simp only [Act.put, List.setIfInBounds_toArray, List.set_cons_zero, List.set_cons_succ])
    refine wpAnyH_done (by kernel_rfl) ?_ _
    go_wp2_with (with_reducible refine G.any_mark _ ?_; (try generalize Array.size (World.heap (G.w _)) = bk); (try dsimp only [List.set_cons_zero, List.set_cons_succ]); (try clear g); intro g)
    go_ret
    exact ⟨rfl, G.below _⟩
end Go.Proofs.Ytodigegjngnknaa
