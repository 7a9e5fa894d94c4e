/- Plain facts and contracts of functions of the program, out of walks. Their conditions stand ahead of each. -/
import Derived.Test.YtodigegjngnknaaDe36
import Derived.Test.YtodigegjngnknaaDe39
import Derived.Below
import Derived.BigQuiet
import Derived.Deep.DeepCutAuto
import Derived.Deep.Draws
import Derived.Deep.LoopGhost
import Derived.Deep.QuietTactic
import Derived.Deep.RegionHeld
import Derived.Deep.RegionHeld3
import Derived.Deep.WholeRow
import Derived.Defers
import Derived.Great.BuildSlice
import Derived.Laws.Bits128
import Derived.Laws.BitsLemmas
import Derived.Laws.BytesString
import Derived.Laws.Cells
import Derived.Laws.CopyOwn
import Derived.Laws.Externs
import Derived.Laws.IdiomStrings
import Derived.Laws.NewBlocks
import Derived.Laws.OwnMore
import Derived.Laws.Pointers
import Derived.Laws.Rows
import Derived.Lib.BitFns
import Derived.Lib.Hide
import Derived.Lib.ItoaNum
import Derived.LoopIn
import Derived.LoopNIn
import Derived.Maps.AppendAt
import Derived.OrdersHeld
import Derived.OrdersIn
import Derived.OwnWalk
import Derived.OwnWalkIn
import Derived.RangeFuncBound
import Derived.RangeFuncBox
import Derived.RangeFuncCalls
import Derived.RangeFuncLeaves
import Derived.RangeFuncNested
import Derived.RowKit3
import Derived.Shelf.Abstract
import Derived.Shelf.RegionOpen
import Derived.StillTactics
import Derived.StillTailTactics
import Derived.TacticsInMore
import Derived.Test.YtodigegjngnknaaProg
import Derived.WalkKit
import Derived.WalkLawsBesides
import Derived.WalkMore
import Derived.WalkSpells
set_option linter.unusedVariables false
set_option linter.unusedSimpArgs false
set_option exponentiation.threshold 10000
namespace Go.Proofs.Ytodigegjngnknaa
open Go.RowKit GW NL Go.Proofs.Ytodigegjngnknaa.X
theorem pm_bac {α : Type} (a b c : α) (l : List α) : (a :: b :: c :: l).Perm (b :: a :: c :: l) := List.Perm.swap _ _ _
theorem pm_acb {α : Type} (a b c : α) (l : List α) : (a :: b :: c :: l).Perm (a :: c :: b :: l) := List.Perm.cons _ (List.Perm.swap _ _ _)
theorem pm_bca {α : Type} (a b c : α) (l : List α) : (a :: b :: c :: l).Perm (b :: c :: a :: l) := (pm_bac a b c l).trans (pm_acb b a c l)
theorem pm_cab {α : Type} (a b c : α) (l : List α) : (a :: b :: c :: l).Perm (c :: a :: b :: l) := (pm_acb a b c l).trans (pm_bac a c b l)
theorem pm_cba {α : Type} (a b c : α) (l : List α) : (a :: b :: c :: l).Perm (c :: b :: a :: l) := (pm_cab a b c l).trans (pm_acb c a b l)
set_option maxRecDepth 20000 in
set_option maxHeartbeats 40000000 in
theorem triangles_walk (a1 a2 a3 b1 b2 b3 c1 c2 c3 : Int) (ha1 : I64 a1) (ha2 : I64 a2) (ha3 : I64 a3) (hb1 : I64 b1) (hb2 : I64 b2) (hb3 : I64 b3) (hc1 : I64 c1) (hc2 : I64 c2) (hc3 : I64 c3) (w : World) :
    Calls Try.prog 3 #[.agg #[.int .i64 a1, .int .i64 a2, .int .i64 a3], .agg #[.int .i64 b1, .int .i64 b2, .int .i64 b3], .agg #[.int .i64 c1, .int .i64 c2, .int .i64 c3]] w fun e w' => e = .returned (.bool true) ∧ Below w.heap.size w w' := by
  refine calls_b fun g => ?_
  have N1 := Lib.hid (fun w => lnear_any a1 a2 a3 ha1 ha2 ha3 w)
  have N2 := Lib.hid (fun w => lnear_any b1 b2 b3 hb1 hb2 hb3 w)
  have N3 := Lib.hid (fun w => lnear_any c1 c2 c3 hc1 hc2 hc3 w)
  have CL := Lib.hid lives_ok
  clear ha1 ha2 ha3 hb1 hb2 hb3 hc1 hc2 hc3
  go_enter Try.func3, Try.ntmps3
  go_wp2_with (with_reducible refine G.any_mark _ ?_; (try generalize Array.size (World.heap (G.w _)) = bk); (try dsimp only [List.set_cons_zero, List.set_cons_succ]); (try clear g); intro g)
  rename_i ba bb K9 hx9
  go_cut [7, 8, 9] (fun r7 r8 r9 wx => ∃ (X Y Z U V W A B C : Int) (pb qb sb : Nat) (g : G w [] [(pb, 23, [.int .i64 X, .int .i64 Y, .int .i64 Z]), (qb, 23, [.int .i64 U, .int .i64 V, .int .i64 W]), (sb, 23, [.int .i64 A, .int .i64 B, .int .i64 C]), (bk, 23, [.int .i64 c1, .int .i64 c2, .int .i64 c3]), (bb, 23, [.int .i64 b1, .int .i64 b2, .int .i64 b3]), (ba, 23, [.int .i64 a1, .int .i64 a2, .int .i64 a3])] [heapOf w]), In3 100000000000 X Y Z ∧ In3 100000000000 U V W ∧ In3 100000000000 A B C ∧ r7 = .pointer (some ⟨pb, 0, none⟩) ∧ r8 = .pointer (some ⟨qb, 0, none⟩) ∧ r9 = .pointer (some ⟨sb, 0, none⟩) ∧ wx = g.w)
  case first =>
    clear CL
    refine wp_region_held_drew (S := G.heldN g [true, true, true]) (by kernel_rfl) (by simp [G.heldN, HeldN, go_sem]) (fun hHeld => ?_)
    refine wpAnyH_take (i := 0) (v := ?_) rfl (by kernel_rfl) (by kernel_rfl) (by kernel_rfl) (fun _ _ _ h => h) (Or.inl ⟨by rfl, ?_⟩) (by assumption) ?_
    rotate_left 1
    · (intro w hSw; (try dsimp only at hSw); go_simp; (try with_reducible rfl))
    (try simp only [Act.put, List.setIfInBounds_toArray, List.set_cons_zero, List.set_cons_succ])
    refine wpAnyH_take (i := 1) (v := ?_) rfl (by kernel_rfl) (by kernel_rfl) (by kernel_rfl) (fun _ _ _ h => h) (Or.inl ⟨by rfl, ?_⟩) (by assumption) ?_
    rotate_left 1
    · (intro w hSw; (try dsimp only at hSw); go_simp; (try with_reducible rfl))
    (try simp only [Act.put, List.setIfInBounds_toArray, List.set_cons_zero, List.set_cons_succ])
    refine wpAnyH_take (i := 2) (v := ?_) rfl (by kernel_rfl) (by kernel_rfl) (by kernel_rfl) (fun _ _ _ h => h) (Or.inl ⟨by rfl, ?_⟩) (by assumption) ?_
    rotate_left 1
    · (intro w hSw; (try dsimp only at hSw); go_simp; (try with_reducible rfl))
    (try simp only [Act.put, List.setIfInBounds_toArray, List.set_cons_zero, List.set_cons_succ])
    refine wpAnyH_take (i := 3) (v := ?_) rfl (by kernel_rfl) (by kernel_rfl) (by kernel_rfl) (fun _ _ _ h => h) (Or.inl ⟨by rfl, ?_⟩) (by assumption) ?_
    rotate_left 1
    · (intro w hSw; (try dsimp only at hSw); go_simp; (try with_reducible rfl))
    (try simp only [Act.put, List.setIfInBounds_toArray, List.set_cons_zero, List.set_cons_succ])
    refine wpAnyH_take (i := 4) (v := ?_) rfl (by kernel_rfl) (by kernel_rfl) (by kernel_rfl) (fun _ _ _ h => h) (Or.inl ⟨by rfl, ?_⟩) (by assumption) ?_
    rotate_left 1
    · (intro w hSw; (try dsimp only at hSw); go_simp; (try with_reducible rfl))
    (try simp only [Act.put, List.setIfInBounds_toArray, List.set_cons_zero, List.set_cons_succ])
    refine wpAnyH_take (i := 5) (v := ?_) rfl (by kernel_rfl) (by kernel_rfl) (by kernel_rfl) (fun _ _ _ h => h) (Or.inl ⟨by rfl, ?_⟩) (by assumption) ?_
    rotate_left 1
    · (intro w hSw; (try dsimp only at hSw); go_simp; (try with_reducible rfl))
    (try simp only [Act.put, List.setIfInBounds_toArray, List.set_cons_zero, List.set_cons_succ])
    refine wpAnyH_take (i := 7) (v := ?_) rfl (by kernel_rfl) (by kernel_rfl) (by kernel_rfl) (fun _ _ _ h => h) (Or.inl ⟨by rfl, ?_⟩) (by assumption) ?_
    rotate_left 1
    · (intro w hSw; (try dsimp only at hSw); go_simp; (try with_reducible rfl))
    (try simp only [Act.put, List.setIfInBounds_toArray, List.set_cons_zero, List.set_cons_succ])
    refine wpAnyH_take (i := 8) (v := ?_) rfl (by kernel_rfl) (by kernel_rfl) (by kernel_rfl) (fun _ _ _ h => h) (Or.inl ⟨by rfl, ?_⟩) (by assumption) ?_
    rotate_left 1
    · (intro w hSw; (try dsimp only at hSw); go_simp; (try with_reducible rfl))
    (try simp only [Act.put, List.setIfInBounds_toArray, List.set_cons_zero, List.set_cons_succ])
    refine wpAnyH_take (i := 9) (v := ?_) rfl (by kernel_rfl) (by kernel_rfl) (by kernel_rfl) (fun _ _ _ h => h) (Or.inl ⟨by rfl, ?_⟩) (by assumption) ?_
    rotate_left 1
    · (intro w hSw; (try dsimp only at hSw); go_simp; (try with_reducible rfl))
    (try simp only [Act.put, List.setIfInBounds_toArray, List.set_cons_zero, List.set_cons_succ])
    refine wpAnyH_take (i := 10) (v := ?_) rfl (by kernel_rfl) (by kernel_rfl) (by kernel_rfl) (fun _ _ _ h => h) (Or.inl ⟨by rfl, ?_⟩) (by assumption) ?_
    rotate_left 1
    · (intro w hSw; (try dsimp only at hSw); go_simp; (try with_reducible rfl))
    (try simp only [Act.put, List.setIfInBounds_toArray, List.set_cons_zero, List.set_cons_succ])
    refine wpAnyH_take (i := 11) (v := ?_) rfl (by kernel_rfl) (by kernel_rfl) (by kernel_rfl) (fun _ _ _ h => h) (Or.inl ⟨by rfl, ?_⟩) (by assumption) ?_
    rotate_left 1
    · (intro w hSw; (try dsimp only at hSw); go_simp; (try with_reducible rfl))
    (try simp only [Act.put, List.setIfInBounds_toArray, List.set_cons_zero, List.set_cons_succ])
    refine wpAnyH_take (i := 12) (v := ?_) rfl (by kernel_rfl) (by kernel_rfl) (by kernel_rfl) (fun _ _ _ h => h) (Or.inl ⟨by rfl, ?_⟩) (by assumption) ?_
    rotate_left 1
    · (intro w hSw; (try dsimp only at hSw); go_simp; (try with_reducible rfl))
    (try simp only [Act.put, List.setIfInBounds_toArray, List.set_cons_zero, List.set_cons_succ])
    refine wpAnyH_take (i := 14) (v := ?_) rfl (by kernel_rfl) (by kernel_rfl) (by kernel_rfl) (fun _ _ _ h => h) (Or.inl ⟨by rfl, ?_⟩) (by assumption) ?_
    rotate_left 1
    · (intro w hSw; (try dsimp only at hSw); go_simp; (try with_reducible rfl))
    (try simp only [Act.put, List.setIfInBounds_toArray, List.set_cons_zero, List.set_cons_succ])
    refine wpAnyH_take (i := 15) (v := ?_) rfl (by kernel_rfl) (by kernel_rfl) (by kernel_rfl) (fun _ _ _ h => h) (Or.inl ⟨by rfl, ?_⟩) (by assumption) ?_
    rotate_left 1
    · (intro w hSw; (try dsimp only at hSw); go_simp; (try with_reducible rfl))
    (try simp only [Act.put, List.setIfInBounds_toArray, List.set_cons_zero, List.set_cons_succ])
    refine wpAnyH_take (i := 16) (v := ?_) rfl (by kernel_rfl) (by kernel_rfl) (by kernel_rfl) (fun _ _ _ h => h) (Or.inl ⟨by rfl, ?_⟩) (by assumption) ?_
    rotate_left 1
    · (intro w hSw; (try dsimp only at hSw); go_simp; (try with_reducible rfl))
    (try simp only [Act.put, List.setIfInBounds_toArray, List.set_cons_zero, List.set_cons_succ])
    refine wpAnyH_take (i := 17) (v := ?_) rfl (by kernel_rfl) (by kernel_rfl) (by kernel_rfl) (fun _ _ _ h => h) (Or.inl ⟨by rfl, ?_⟩) (by assumption) ?_
    rotate_left 1
    · (intro w hSw; (try dsimp only at hSw); go_simp; (try with_reducible rfl))
    (try simp only [Act.put, List.setIfInBounds_toArray, List.set_cons_zero, List.set_cons_succ])
    refine wpAnyH_take (i := 18) (v := ?_) rfl (by kernel_rfl) (by kernel_rfl) (by kernel_rfl) (fun _ _ _ h => h) (Or.inl ⟨by rfl, ?_⟩) (by assumption) ?_
    rotate_left 1
    · (intro w hSw; (try dsimp only at hSw); go_simp; (try with_reducible rfl))
    (try simp only [Act.put, List.setIfInBounds_toArray, List.set_cons_zero, List.set_cons_succ])
    refine wpAnyH_take (i := 19) (v := ?_) rfl (by kernel_rfl) (by kernel_rfl) (by kernel_rfl) (fun _ _ _ h => h) (Or.inl ⟨by rfl, ?_⟩) (by assumption) ?_
    rotate_left 1
    · (intro w hSw; (try dsimp only at hSw); go_simp; (try with_reducible rfl))
    (try simp only [Act.put, List.setIfInBounds_toArray, List.set_cons_zero, List.set_cons_succ])
    simp only [Act.put, List.getElem_toArray, List.getElem_cons_zero, List.getElem_cons_succ, List.setIfInBounds_toArray, List.set_cons_zero, List.set_cons_succ]
    clear hHeld
    ((try simp only [G.drew_eq, G.drewN_eq]); (refine G.any_mark _ ?_; (try clear g); intro g))
    refine wpAnyH_act (fun A hA => ?_)
    refine wpAnyH_inv (I := fun l a w' => ∃ (f0 f1 f2 x0 x1 x2 s0 s1 s2 : Bool) (r26 r33 r40 r7 r8 r9 : Value) (X Y Z U V W A' B C : Int) (pb qb sb : Nat) (Mp Mq Ms : List Blk) (g' : G w [] (Mp ++ (Mq ++ (Ms ++ [(bk, 23, [.int .i64 c1, .int .i64 c2, .int .i64 c3]), (bb, 23, [.int .i64 b1, .int .i64 b2, .int .i64 b3]), (ba, 23, [.int .i64 a1, .int .i64 a2, .int .i64 a3])]))) [heapOf w]), l = #[true, true, true, true, true, true, f0, true, true, true, true, true, true, f1, true, true, true, true, true, true, f2, x0, x1, x2, s0, s1, s2] ∧ a = ((((((A.put (some (26 : Nat)) r26).put (some (33 : Nat)) r33).put (some (40 : Nat)) r40).put (some (7 : Nat)) r7).put (some (8 : Nat)) r8).put (some (9 : Nat)) r9) ∧ w' = g'.w ∧ (f0 = true → r26 = .agg #[.int .i64 X, .int .i64 Y, .int .i64 Z] ∧ In3 100000000000 X Y Z) ∧ (f1 = true → r33 = .agg #[.int .i64 U, .int .i64 V, .int .i64 W] ∧ In3 100000000000 U V W) ∧ (f2 = true → r40 = .agg #[.int .i64 A', .int .i64 B, .int .i64 C] ∧ In3 100000000000 A' B C) ∧ (x0 = true → r7 = .pointer (some ⟨pb, 0, none⟩) ∧ Mp = [(pb, 23, cont s0 X Y Z)]) ∧ (x0 = false → Mp = []) ∧ (x1 = true → r8 = .pointer (some ⟨qb, 0, none⟩) ∧ Mq = [(qb, 23, cont s1 U V W)]) ∧ (x1 = false → Mq = []) ∧ (x2 = true → r9 = .pointer (some ⟨sb, 0, none⟩) ∧ Ms = [(sb, 23, cont s2 A' B C)]) ∧ (x2 = false → Ms = []) ∧ (s0 = true → f0 = true ∧ f1 = true ∧ f2 = true ∧ x0 = true) ∧ (s1 = true → s0 = true ∧ x1 = true) ∧ (s2 = true → s1 = true ∧ x2 = true) ∧ (f1 = true → f0 = true) ∧ (f2 = true → f1 = true)) [(13, 6), (20, 13), (24, 21), (24, 20), (25, 22), (25, 24), (26, 23), (26, 25)] (by decide +kernel) (by decide +kernel) ?hS ?hexit ?hstep _ _ _ _ rfl (by decide) ?init
    case hS =>
      rintro l a w' ⟨f0, f1, f2, x0, x1, x2, s0, s1, s2, r26, r33, r40, r7, r8, r9, X, Y, Z, U, V, W, A', B, C, pb, qb, sb, Mp, Mq, Ms, g', rfl, rfl, rfl, -⟩
      exact ⟨fun i => g'.cell_mem (T := 23) (by simp) i, fun i => g'.cell_mem (T := 23) (by simp) i, fun i => g'.cell_mem (T := 23) (by simp) i, trivial⟩
    case init =>
      subst hA
      exact ⟨false, false, false, false, false, false, false, false, false, undef, undef, undef, undef, undef, undef, 0, 0, 0, 0, 0, 0, 0, 0, 0, 0, 0, 0, [], [], [], g, rfl, (by kernel_rfl), rfl, (fun h => by cases h), (fun h => by cases h), (fun h => by cases h), (fun h => by cases h), (fun _ => rfl), (fun h => by cases h), (fun _ => rfl), (fun h => by cases h), (fun _ => rfl), (fun h => by cases h), (fun h => by cases h), (fun h => by cases h), (fun h => by cases h), (fun h => by cases h)⟩
    case hexit =>
      rintro fuel l a w' ⟨f0, f1, f2, x0, x1, x2, s0, s1, s2, r26, r33, r40, r7, r8, r9, X, Y, Z, U, V, W, A', B, C, pb, qb, sb, Mp, Mq, Ms, g', rfl, rfl, rfl, h26, h33, h40, hp1, hp0, hq1, hq0, hs1, hs0, u0, u1, u2, t1, t2⟩ hm
      have h0 := missing_zero (Nat.le_zero.1 hm)
      obtain rfl : f0 = true := h0 6
      obtain rfl : f1 = true := h0 13
      obtain rfl : f2 = true := h0 20
      obtain rfl : x0 = true := h0 21
      obtain rfl : x1 = true := h0 22
      obtain rfl : x2 = true := h0 23
      obtain rfl : s0 = true := h0 24
      obtain rfl : s1 = true := h0 25
      obtain rfl : s2 = true := h0 26
      clear h0
      obtain ⟨rfl, hN1⟩ := h26 rfl
      obtain ⟨rfl, hN2⟩ := h33 rfl
      obtain ⟨rfl, hN3⟩ := h40 rfl
      obtain ⟨rfl, rfl⟩ := hp1 rfl
      obtain ⟨rfl, rfl⟩ := hq1 rfl
      obtain ⟨rfl, rfl⟩ := hs1 rfl
      obtain ⟨g2, hg2⟩ : ∃ g2 : G w [] [(pb, 23, [.int .i64 X, .int .i64 Y, .int .i64 Z]), (qb, 23, [.int .i64 U, .int .i64 V, .int .i64 W]), (sb, 23, [.int .i64 A', .int .i64 B, .int .i64 C]), (bk, 23, [.int .i64 c1, .int .i64 c2, .int .i64 c3]), (bb, 23, [.int .i64 b1, .int .i64 b2, .int .i64 b3]), (ba, 23, [.int .i64 a1, .int .i64 a2, .int .i64 a3])] [heapOf w], g2.w = g'.w := ⟨g', rfl⟩
      rw [← hg2]
      clear hg2 h26 h33 h40 hp1 hp0 hq1 hq0 hs1 hs0 u0 u1 u2 t1 t2 hm g'
      revert g2
      clear g
      intro g
      subst hA
      simp only [Act.put, List.setIfInBounds_toArray, List.set_cons_zero, List.set_cons_succ]
      refine wpAnyH_done (by kernel_rfl) ?_ _
      go_wp2_with fail
      go_meet
      exact ⟨_, _, _, _, _, _, _, _, _, _, _, _, g, hN1, hN2, hN3, rfl, rfl, rfl, rfl⟩
    case hstep =>
      rintro l a w' ⟨f0, f1, f2, x0, x1, x2, s0, s1, s2, r26, r33, r40, r7, r8, r9, X, Y, Z, U, V, W, A', B, C, pb, qb, sb, Mp, Mq, Ms, g', rfl, rfl, rfl, h26, h33, h40, hp1, hp0, hq1, hq0, hs1, hs0, u0, u1, u2, t1, t2⟩ i hlt hl hd
      have hE : (i = 6 ∧ f0 = false) ∨ (i = 13 ∧ f1 = false ∧ f0 = true) ∨ (i = 20 ∧ f2 = false ∧ f1 = true) ∨ (i = 21 ∧ x0 = false) ∨ (i = 22 ∧ x1 = false) ∨ (i = 23 ∧ x2 = false) ∨ (i = 24 ∧ s0 = false ∧ x0 = true ∧ f2 = true) ∨ (i = 25 ∧ s1 = false ∧ x1 = true ∧ s0 = true) ∨ (i = 26 ∧ s2 = false ∧ x2 = true ∧ s1 = true) := by
        clear h26 h33 h40 hp1 hp0 hq1 hq0 hs1 hs0 u0 u1 u2 t1 t2 hA g' g
        have hlt' : i < 27 := hlt
        have hc : i = 0 ∨ i = 1 ∨ i = 2 ∨ i = 3 ∨ i = 4 ∨ i = 5 ∨ i = 6 ∨ i = 7 ∨ i = 8 ∨ i = 9 ∨ i = 10 ∨ i = 11 ∨ i = 12 ∨ i = 13 ∨ i = 14 ∨ i = 15 ∨ i = 16 ∨ i = 17 ∨ i = 18 ∨ i = 19 ∨ i = 20 ∨ i = 21 ∨ i = 22 ∨ i = 23 ∨ i = 24 ∨ i = 25 ∨ i = 26 := by omega
        rcases hc with rfl | rfl | rfl | rfl | rfl | rfl | rfl | rfl | rfl | rfl | rfl | rfl | rfl | rfl | rfl | rfl | rfl | rfl | rfl | rfl | rfl | rfl | rfl | rfl | rfl | rfl | rfl
        · exact Bool.noConfusion (show true = false from hl)
        · exact Bool.noConfusion (show true = false from hl)
        · exact Bool.noConfusion (show true = false from hl)
        · exact Bool.noConfusion (show true = false from hl)
        · exact Bool.noConfusion (show true = false from hl)
        · exact Bool.noConfusion (show true = false from hl)
        · exact .inl ⟨rfl, hl⟩
        · exact Bool.noConfusion (show true = false from hl)
        · exact Bool.noConfusion (show true = false from hl)
        · exact Bool.noConfusion (show true = false from hl)
        · exact Bool.noConfusion (show true = false from hl)
        · exact Bool.noConfusion (show true = false from hl)
        · exact Bool.noConfusion (show true = false from hl)
        · exact .inr (.inl ⟨rfl, hl, hd 6 (by simp)⟩)
        · exact Bool.noConfusion (show true = false from hl)
        · exact Bool.noConfusion (show true = false from hl)
        · exact Bool.noConfusion (show true = false from hl)
        · exact Bool.noConfusion (show true = false from hl)
        · exact Bool.noConfusion (show true = false from hl)
        · exact Bool.noConfusion (show true = false from hl)
        · exact .inr (.inr (.inl ⟨rfl, hl, hd 13 (by simp)⟩))
        · exact .inr (.inr (.inr (.inl ⟨rfl, hl⟩)))
        · exact .inr (.inr (.inr (.inr (.inl ⟨rfl, hl⟩))))
        · exact .inr (.inr (.inr (.inr (.inr (.inl ⟨rfl, hl⟩)))))
        · exact .inr (.inr (.inr (.inr (.inr (.inr (.inl ⟨rfl, hl, hd 21 (by simp), hd 20 (by simp)⟩))))))
        · exact .inr (.inr (.inr (.inr (.inr (.inr (.inr (.inl ⟨rfl, hl, hd 22 (by simp), hd 24 (by simp)⟩)))))))
        · exact .inr (.inr (.inr (.inr (.inr (.inr (.inr (.inr (⟨rfl, hl, hd 23 (by simp), hd 25 (by simp)⟩))))))))
      clear hl hd hlt g
      subst hA
      rcases hE with ⟨rfl, e0⟩ | ⟨rfl, e0, e1⟩ | ⟨rfl, e0, e1⟩ | ⟨rfl, e0⟩ | ⟨rfl, e0⟩ | ⟨rfl, e0⟩ | ⟨rfl, e0, e1, e2⟩ | ⟨rfl, e0, e1, e2⟩ | ⟨rfl, e0, e1, e2⟩
      · replace e0 : f0 = false := e0

        subst e0
        obtain rfl : s0 = false := by cases s0; rfl; exact absurd (u0 rfl) (by simp [])
        obtain rfl : s1 = false := by cases s1; rfl; exact absurd (u1 rfl) (by simp)
        obtain rfl : s2 = false := by cases s2; rfl; exact absurd (u2 rfl) (by simp)
        refine ⟨_, rfl, fun K hK => ?_⟩
        replace h33 := Lib.hid h33
        replace h40 := Lib.hid h40
        replace hp1 := Lib.hid hp1
        replace hp0 := Lib.hid hp0
        replace hq1 := Lib.hid hq1
        replace hq0 := Lib.hid hq0
        replace hs1 := Lib.hid hs1
        replace hs0 := Lib.hid hs0
        replace t2 := Lib.hid t2
        as_aux_lemma =>
          (try simp only [Act.put, List.setIfInBounds_toArray, List.set_cons_zero, List.set_cons_succ])
          go_simp
          go_at_call 10
          refine (N1.out _).mono ?_
          rintro e w1 ⟨X1, Y1, Z1, hN, rfl, hb⟩
          obtain ⟨g1, rfl⟩ := G.call_ex _ hb
          refine hK.out _ _ ?_
          exact ⟨true, f1, f2, x0, x1, x2, false, false, false, .agg #[.int .i64 X1, .int .i64 Y1, .int .i64 Z1], r33, r40, r7, r8, r9, X1, Y1, Z1, U, V, W, A', B, C, pb, qb, sb, Mp, Mq, Ms, g1, (by kernel_rfl), (by kernel_rfl), rfl, (fun _ => ⟨rfl, hN⟩), h33.out, h40.out, hp1.out, hp0.out, hq1.out, hq0.out, hs1.out, hs0.out, (fun h => by cases h), (fun h => by cases h), (fun h => by cases h), (fun _ => rfl), t2.out⟩
      · replace e0 : f1 = false := e0
        replace e1 : f0 = true := e1
        subst e0
        obtain rfl : s0 = false := by cases s0; rfl; exact absurd (u0 rfl) (by simp [])
        obtain rfl : s1 = false := by cases s1; rfl; exact absurd (u1 rfl) (by simp)
        obtain rfl : s2 = false := by cases s2; rfl; exact absurd (u2 rfl) (by simp)
        refine ⟨_, rfl, fun K hK => ?_⟩
        replace h26 := Lib.hid h26
        replace h40 := Lib.hid h40
        replace hp1 := Lib.hid hp1
        replace hp0 := Lib.hid hp0
        replace hq1 := Lib.hid hq1
        replace hq0 := Lib.hid hq0
        replace hs1 := Lib.hid hs1
        replace hs0 := Lib.hid hs0
        as_aux_lemma =>
          (try simp only [Act.put, List.setIfInBounds_toArray, List.set_cons_zero, List.set_cons_succ])
          go_simp
          go_at_call 10
          refine (N2.out _).mono ?_
          rintro e w1 ⟨X1, Y1, Z1, hN, rfl, hb⟩
          obtain ⟨g1, rfl⟩ := G.call_ex _ hb
          refine hK.out _ _ ?_
          exact ⟨f0, true, f2, x0, x1, x2, false, false, false, r26, .agg #[.int .i64 X1, .int .i64 Y1, .int .i64 Z1], r40, r7, r8, r9, X, Y, Z, X1, Y1, Z1, A', B, C, pb, qb, sb, Mp, Mq, Ms, g1, (by kernel_rfl), (by kernel_rfl), rfl, h26.out, (fun _ => ⟨rfl, hN⟩), h40.out, hp1.out, hp0.out, hq1.out, hq0.out, hs1.out, hs0.out, (fun h => by cases h), (fun h => by cases h), (fun h => by cases h), (fun _ => e1), (fun _ => rfl)⟩
      · replace e0 : f2 = false := e0
        replace e1 : f1 = true := e1
        subst e0
        obtain rfl : s0 = false := by cases s0; rfl; exact absurd (u0 rfl) (by simp [])
        obtain rfl : s1 = false := by cases s1; rfl; exact absurd (u1 rfl) (by simp)
        obtain rfl : s2 = false := by cases s2; rfl; exact absurd (u2 rfl) (by simp)
        refine ⟨_, rfl, fun K hK => ?_⟩
        replace h26 := Lib.hid h26
        replace h33 := Lib.hid h33
        replace hp1 := Lib.hid hp1
        replace hp0 := Lib.hid hp0
        replace hq1 := Lib.hid hq1
        replace hq0 := Lib.hid hq0
        replace hs1 := Lib.hid hs1
        replace hs0 := Lib.hid hs0
        replace t1 := Lib.hid t1
        as_aux_lemma =>
          (try simp only [Act.put, List.setIfInBounds_toArray, List.set_cons_zero, List.set_cons_succ])
          go_simp
          go_at_call 10
          refine (N3.out _).mono ?_
          rintro e w1 ⟨X1, Y1, Z1, hN, rfl, hb⟩
          obtain ⟨g1, rfl⟩ := G.call_ex _ hb
          refine hK.out _ _ ?_
          exact ⟨f0, f1, true, x0, x1, x2, false, false, false, r26, r33, .agg #[.int .i64 X1, .int .i64 Y1, .int .i64 Z1], r7, r8, r9, X, Y, Z, U, V, W, X1, Y1, Z1, pb, qb, sb, Mp, Mq, Ms, g1, (by kernel_rfl), (by kernel_rfl), rfl, h26.out, h33.out, (fun _ => ⟨rfl, hN⟩), hp1.out, hp0.out, hq1.out, hq0.out, hs1.out, hs0.out, (fun h => by cases h), (fun h => by cases h), (fun h => by cases h), t1.out, (fun _ => e1)⟩
      · replace e0 : x0 = false := e0
        subst e0
        obtain rfl : s0 = false := by cases s0; rfl; exact absurd (u0 rfl) (by simp)
        obtain rfl := hp0 rfl
        refine ⟨_, rfl, fun K hK => ?_⟩
        replace h26 := Lib.hid h26
        replace h33 := Lib.hid h33
        replace h40 := Lib.hid h40
        replace hq1 := Lib.hid hq1
        replace hq0 := Lib.hid hq0
        replace hs1 := Lib.hid hs1
        replace hs0 := Lib.hid hs0
        replace u1 := Lib.hid u1
        replace u2 := Lib.hid u2
        replace t1 := Lib.hid t1
        replace t2 := Lib.hid t2
        as_aux_lemma =>
          (try simp only [Act.put, List.setIfInBounds_toArray, List.set_cons_zero, List.set_cons_succ])
          go_simp
          obtain ⟨g1, hg1⟩ := G.perm (g'.new [.int .i64 0, .int .i64 0, .int .i64 0] 23) (List.Perm.refl _)
          refine hK.out _ _ ?_
          exact ⟨f0, f1, f2, true, x1, x2, false, s1, s2, r26, r33, r40, .pointer (some ⟨g'.w.heap.size, 0, none⟩), r8, r9, X, Y, Z, U, V, W, A', B, C, g'.w.heap.size, qb, sb, [(g'.w.heap.size, 23, [.int .i64 0, .int .i64 0, .int .i64 0])], Mq, Ms, g1, (by kernel_rfl), (by kernel_rfl), hg1, h26.out, h33.out, h40.out, (fun _ => ⟨rfl, rfl⟩), (fun h => by cases h), hq1.out, hq0.out, hs1.out, hs0.out, (fun h => by cases h), (fun h => absurd (u1.out h) (by simp)), u2.out, t1.out, t2.out⟩
      · replace e0 : x1 = false := e0
        subst e0
        obtain rfl : s1 = false := by cases s1; rfl; exact absurd (u1 rfl) (by simp)
        obtain rfl := hq0 rfl
        refine ⟨_, rfl, fun K hK => ?_⟩
        replace h26 := Lib.hid h26
        replace h33 := Lib.hid h33
        replace h40 := Lib.hid h40
        replace hp1 := Lib.hid hp1
        replace hp0 := Lib.hid hp0
        replace hs1 := Lib.hid hs1
        replace hs0 := Lib.hid hs0
        replace u0 := Lib.hid u0
        replace u2 := Lib.hid u2
        replace t1 := Lib.hid t1
        replace t2 := Lib.hid t2
        as_aux_lemma =>
          (try simp only [Act.put, List.setIfInBounds_toArray, List.set_cons_zero, List.set_cons_succ])
          go_simp
          obtain ⟨g1, hg1⟩ := G.perm (g'.new [.int .i64 0, .int .i64 0, .int .i64 0] 23) (pmid _ Mp _)
          refine hK.out _ _ ?_
          exact ⟨f0, f1, f2, x0, true, x2, s0, false, s2, r26, r33, r40, r7, .pointer (some ⟨g'.w.heap.size, 0, none⟩), r9, X, Y, Z, U, V, W, A', B, C, pb, g'.w.heap.size, sb, Mp, [(g'.w.heap.size, 23, [.int .i64 0, .int .i64 0, .int .i64 0])], Ms, g1, (by kernel_rfl), (by kernel_rfl), hg1, h26.out, h33.out, h40.out, hp1.out, hp0.out, (fun _ => ⟨rfl, rfl⟩), (fun h => by cases h), hs1.out, hs0.out, u0.out, (fun h => by cases h), (fun h => absurd (u2.out h) (by simp)), t1.out, t2.out⟩
      · replace e0 : x2 = false := e0
        subst e0
        obtain rfl : s2 = false := by cases s2; rfl; exact absurd (u2 rfl) (by simp)
        obtain rfl := hs0 rfl
        refine ⟨_, rfl, fun K hK => ?_⟩
        replace h26 := Lib.hid h26
        replace h33 := Lib.hid h33
        replace h40 := Lib.hid h40
        replace hp1 := Lib.hid hp1
        replace hp0 := Lib.hid hp0
        replace hq1 := Lib.hid hq1
        replace hq0 := Lib.hid hq0
        replace u0 := Lib.hid u0
        replace u1 := Lib.hid u1
        replace t1 := Lib.hid t1
        replace t2 := Lib.hid t2
        as_aux_lemma =>
          (try simp only [Act.put, List.setIfInBounds_toArray, List.set_cons_zero, List.set_cons_succ])
          go_simp
          obtain ⟨g1, hg1⟩ := G.perm (g'.new [.int .i64 0, .int .i64 0, .int .i64 0] 23) (pmid2 _ Mp Mq _)
          refine hK.out _ _ ?_
          exact ⟨f0, f1, f2, x0, x1, true, s0, s1, false, r26, r33, r40, r7, r8, .pointer (some ⟨g'.w.heap.size, 0, none⟩), X, Y, Z, U, V, W, A', B, C, pb, qb, g'.w.heap.size, Mp, Mq, [(g'.w.heap.size, 23, [.int .i64 0, .int .i64 0, .int .i64 0])], g1, (by kernel_rfl), (by kernel_rfl), hg1, h26.out, h33.out, h40.out, hp1.out, hp0.out, hq1.out, hq0.out, (fun _ => ⟨rfl, rfl⟩), (fun h => by cases h), u0.out, u1.out, (fun h => by cases h), t1.out, t2.out⟩
      · replace e0 : s0 = false := e0
        replace e1 : x0 = true := e1
        replace e2 : f2 = true := e2
        subst e0
        obtain ⟨rfl, rfl, rfl⟩ : f0 = true ∧ f1 = true ∧ f2 = true := ⟨t1 (t2 e2), t2 e2, e2⟩
        obtain rfl : x0 = true := e1
        obtain ⟨rfl, hN1⟩ := h26 (by simp [*])
        obtain ⟨rfl, hN2⟩ := h33 (by simp [*])
        obtain ⟨rfl, hN3⟩ := h40 (by simp [*])
        obtain ⟨rfl, rfl⟩ := hp1 rfl
        obtain ⟨g2, hg2⟩ := G.as (M' := ((pb, 23, [.int .i64 0, .int .i64 0, .int .i64 0]) :: (Mq ++ (Ms ++ [(bk, 23, [.int .i64 c1, .int .i64 c2, .int .i64 c3]), (bb, 23, [.int .i64 b1, .int .i64 b2, .int .i64 b3]), (ba, 23, [.int .i64 a1, .int .i64 a2, .int .i64 a3])])))) g' rfl
        refine ⟨_, rfl, fun K hK => ?_⟩
        rw [hg2]
        clear hg2
        replace hq1 := Lib.hid hq1
        replace hq0 := Lib.hid hq0
        replace hs1 := Lib.hid hs1
        replace hs0 := Lib.hid hs0
        replace u1 := Lib.hid u1
        replace u2 := Lib.hid u2
        as_aux_lemma =>
          (try simp only [Act.put, List.setIfInBounds_toArray, List.set_cons_zero, List.set_cons_succ])
          go_simp
          refine hK.out _ _ ?_
          exact ⟨true, true, true, true, x1, x2, true, s1, s2, .agg #[.int .i64 X, .int .i64 Y, .int .i64 Z], .agg #[.int .i64 U, .int .i64 V, .int .i64 W], .agg #[.int .i64 A', .int .i64 B, .int .i64 C], .pointer (some ⟨pb, 0, none⟩), r8, r9, X, Y, Z, U, V, W, A', B, C, pb, qb, sb, [(pb, 23, cont true X Y Z)], Mq, Ms, _, (by kernel_rfl), (by kernel_rfl), rfl, (fun _ => ⟨rfl, hN1⟩), (fun _ => ⟨rfl, hN2⟩), (fun _ => ⟨rfl, hN3⟩), (fun _ => ⟨rfl, rfl⟩), (fun h => by cases h), hq1.out, hq0.out, hs1.out, hs0.out, (fun _ => ⟨rfl, rfl, rfl, rfl⟩), (fun h => absurd (u1.out h) (by simp)), u2.out, (fun _ => rfl), (fun _ => rfl)⟩
      · replace e0 : s1 = false := e0
        replace e1 : x1 = true := e1
        replace e2 : s0 = true := e2
        subst e0
        obtain rfl : s0 = true := e2
        obtain ⟨rfl, rfl, rfl, -⟩ := u0 rfl
        obtain rfl : x0 = true := (u0 rfl).2.2.2
        obtain rfl : x1 = true := e1
        obtain ⟨rfl, hN1⟩ := h26 (by simp [*])
        obtain ⟨rfl, hN2⟩ := h33 (by simp [*])
        obtain ⟨rfl, hN3⟩ := h40 (by simp [*])
        obtain ⟨rfl, rfl⟩ := hp1 rfl
        obtain ⟨rfl, rfl⟩ := hq1 rfl
        obtain ⟨g2, hg2⟩ := G.as (M' := ((pb, 23, [.int .i64 X, .int .i64 Y, .int .i64 Z]) :: (qb, 23, [.int .i64 0, .int .i64 0, .int .i64 0]) :: (Ms ++ [(bk, 23, [.int .i64 c1, .int .i64 c2, .int .i64 c3]), (bb, 23, [.int .i64 b1, .int .i64 b2, .int .i64 b3]), (ba, 23, [.int .i64 a1, .int .i64 a2, .int .i64 a3])]))) g' rfl
        refine ⟨_, rfl, fun K hK => ?_⟩
        rw [hg2]
        clear hg2
        replace hs1 := Lib.hid hs1
        replace hs0 := Lib.hid hs0
        replace u2 := Lib.hid u2
        as_aux_lemma =>
          (try simp only [Act.put, List.setIfInBounds_toArray, List.set_cons_zero, List.set_cons_succ])
          go_simp
          refine hK.out _ _ ?_
          exact ⟨true, true, true, true, true, x2, true, true, s2, .agg #[.int .i64 X, .int .i64 Y, .int .i64 Z], .agg #[.int .i64 U, .int .i64 V, .int .i64 W], .agg #[.int .i64 A', .int .i64 B, .int .i64 C], .pointer (some ⟨pb, 0, none⟩), .pointer (some ⟨qb, 0, none⟩), r9, X, Y, Z, U, V, W, A', B, C, pb, qb, sb, [(pb, 23, cont true X Y Z)], [(qb, 23, cont true U V W)], Ms, _, (by kernel_rfl), (by kernel_rfl), rfl, (fun _ => ⟨rfl, hN1⟩), (fun _ => ⟨rfl, hN2⟩), (fun _ => ⟨rfl, hN3⟩), (fun _ => ⟨rfl, rfl⟩), (fun h => by cases h), (fun _ => ⟨rfl, rfl⟩), (fun h => by cases h), hs1.out, hs0.out, (fun _ => ⟨rfl, rfl, rfl, rfl⟩), (fun _ => ⟨rfl, rfl⟩), (fun h => absurd (u2.out h) (by simp)), (fun _ => rfl), (fun _ => rfl)⟩
      · replace e0 : s2 = false := e0
        replace e1 : x2 = true := e1
        replace e2 : s1 = true := e2
        subst e0
        obtain rfl : s1 = true := e2
        obtain rfl : s0 = true := (u1 rfl).1
        obtain ⟨rfl, rfl, rfl, -⟩ := u0 rfl
        obtain rfl : x0 = true := (u0 rfl).2.2.2
        obtain rfl : x1 = true := (u1 rfl).2
        obtain rfl : x2 = true := e1
        obtain ⟨rfl, hN1⟩ := h26 (by simp [*])
        obtain ⟨rfl, hN2⟩ := h33 (by simp [*])
        obtain ⟨rfl, hN3⟩ := h40 (by simp [*])
        obtain ⟨rfl, rfl⟩ := hp1 rfl
        obtain ⟨rfl, rfl⟩ := hq1 rfl
        obtain ⟨rfl, rfl⟩ := hs1 rfl
        obtain ⟨g2, hg2⟩ := G.as (M' := ((pb, 23, [.int .i64 X, .int .i64 Y, .int .i64 Z]) :: (qb, 23, [.int .i64 U, .int .i64 V, .int .i64 W]) :: (sb, 23, [.int .i64 0, .int .i64 0, .int .i64 0]) :: [(bk, 23, [.int .i64 c1, .int .i64 c2, .int .i64 c3]), (bb, 23, [.int .i64 b1, .int .i64 b2, .int .i64 b3]), (ba, 23, [.int .i64 a1, .int .i64 a2, .int .i64 a3])])) g' rfl
        refine ⟨_, rfl, fun K hK => ?_⟩
        rw [hg2]
        clear hg2
        as_aux_lemma =>
          (try simp only [Act.put, List.setIfInBounds_toArray, List.set_cons_zero, List.set_cons_succ])
          go_simp
          refine hK.out _ _ ?_
          exact ⟨true, true, true, true, true, true, true, true, true, .agg #[.int .i64 X, .int .i64 Y, .int .i64 Z], .agg #[.int .i64 U, .int .i64 V, .int .i64 W], .agg #[.int .i64 A', .int .i64 B, .int .i64 C], .pointer (some ⟨pb, 0, none⟩), .pointer (some ⟨qb, 0, none⟩), .pointer (some ⟨sb, 0, none⟩), X, Y, Z, U, V, W, A', B, C, pb, qb, sb, [(pb, 23, cont true X Y Z)], [(qb, 23, cont true U V W)], [(sb, 23, cont true A' B C)], _, (by kernel_rfl), (by kernel_rfl), rfl, (fun _ => ⟨rfl, hN1⟩), (fun _ => ⟨rfl, hN2⟩), (fun _ => ⟨rfl, hN3⟩), (fun _ => ⟨rfl, rfl⟩), (fun h => by cases h), (fun _ => ⟨rfl, rfl⟩), (fun h => by cases h), (fun _ => ⟨rfl, rfl⟩), (fun h => by cases h), (fun _ => ⟨rfl, rfl, rfl, rfl⟩), (fun _ => ⟨rfl, rfl⟩), (fun _ => ⟨rfl, rfl⟩), (fun _ => rfl), (fun _ => rfl)⟩
  case rest =>
  obtain ⟨X, Y, Z, U, V, W, A, B, C, pb, qb, sb, g, hp, hq, hs, rfl, rfl, rfl, rfl⟩ := hcut
  clear N1 N2 N3
  obtain ⟨pq, r1, r1b, K1, K2⟩ := range_at X Y Z U V W hp hq
  obtain ⟨ps, r2, r2b, K3, _⟩ := range_at X Y Z A B C hp hs
  obtain ⟨sq, r3, r3b, K4, _⟩ := range_at A B C U V W hs hq
  have hT := tri_at r1 r2 r3
  obtain ⟨n0, n1⟩ := dd_bd hp hq
  obtain ⟨da, db, dc⟩ := hp.diff hq
  have C1 := Lib.hid K1
  have C2 := Lib.hid K2
  have C3 := Lib.hid K3
  have C4 := Lib.hid K4
  clear K1 K2 K3 K4
  have e1 := wrap_sm da
  have e2 := wrap_sm db
  have e3 := wrap_sm dc
  have CN := Lib.hid (fun w => rnormW (U - X) (V - Y) (W - Z) (dd X Y Z U V W) (by omega) (by omega) (by omega) rfl w)
  generalize dd X Y Z U V W = D at *
  generalize dd X Y Z A B C = D2 at *
  generalize dd A B C U V W = D3 at *
  obtain ⟨p0, p9, p1, p2⟩ := r1
  obtain ⟨s0, s9, _, _⟩ := r2
  obtain ⟨t0, t9, _, _⟩ := r3
  have CP := Lib.hid (fun w => rprodW pq pq (pq * pq) (by unfold Fx.R64; omega) (by unfold Fx.R64; omega) rfl w)
  have CQ := Lib.hid (fun w => rprodW (pq + 1) (pq + 1) ((pq + 1) * (pq + 1)) (by unfold Fx.R64; omega) (by unfold Fx.R64; omega) rfl w)
  have CC := Lib.hid (fun w => rcmpW (pq * pq) D w)
  have CE := Lib.hid (fun w => rcmpW ((pq + 1) * (pq + 1)) D w)
  have k1 : ¬ 0 < cmpI (pq * pq) D := by unfold cmpI; repeat' split <;> omega
  have k2 : cmpI ((pq + 1) * (pq + 1)) D = 1 := by unfold cmpI; rw [if_neg (by omega), if_neg (by omega)]
  rw [k2] at CE
  generalize cmpI (pq * pq) D = cc at *
  generalize pq * pq = P at *
  generalize (pq + 1) * (pq + 1) = Q at *
  have f1 : ¬ pq < 0 := by omega
  have f2 : ¬ 400000000000 < pq := by omega
  have w1 : IntKind.i64.wrap (ps + sq) = ps + sq := by rw [IntKind.wrap_i64]; omega
  have w2 : IntKind.i64.wrap (ps + sq + 1) = ps + sq + 1 := by rw [IntKind.wrap_i64]; omega
  obtain ⟨pz, hpz⟩ : ∃ x, pq + 1 = x := ⟨_, rfl⟩
  have w3 : IntKind.i64.wrap (pq + 1) = pz := by rw [hpz, IntKind.wrap_i64]; omega
  rw [hpz] at CQ
  have f3 : ¬ ps + sq + 1 < pq := by omega
  generalize wh P = hP at *
  generalize wl P = lP at *
  generalize wh Q = hQ at *
  generalize wl Q = lQ at *
  generalize wh D = hD at *
  generalize wl D = lD at *
  obtain ⟨dx, hdx⟩ : ∃ d, U - X = d := ⟨_, rfl⟩
  rw [hdx] at CN
  replace e1 : IntKind.i64.wrap (U - X) = dx := by rw [e1, hdx]
  obtain ⟨dy, hdy⟩ : ∃ d, V - Y = d := ⟨_, rfl⟩
  rw [hdy] at CN
  replace e2 : IntKind.i64.wrap (V - Y) = dy := by rw [e2, hdy]
  obtain ⟨dz, hdz⟩ : ∃ d, W - Z = d := ⟨_, rfl⟩
  rw [hdz] at CN
  replace e3 : IntKind.i64.wrap (W - Z) = dz := by rw [e3, hdz]
  clear hdx hdy hdz hpz
  clear da db dc n0 n1 p0 p9 p1 p2 s0 s9 t0 t9 r1b r2b r3b hT hp hq hs k2
  have HH := Lib.hid (And.intro CN (And.intro CP (And.intro CC (And.intro CQ CE))))
  clear CN CP CC CQ CE
  as_aux_lemma =>
    go_wp2_with (with_reducible refine G.any_mark _ ?_; (try generalize Array.size (World.heap (G.w _)) = bk); (try dsimp only [List.set_cons_zero, List.set_cons_succ]); (try clear g); intro g)
    refine (C1.out _).mono ?_
    rintro e w1 ⟨rfl, hb⟩
    obtain ⟨g1, rfl⟩ := G.call_ex _ hb
    clear hb
    (try clear g)
    revert g1
    intro g
    clear C1
    go_wp2_with (with_reducible refine G.any_mark _ ?_; (try generalize Array.size (World.heap (G.w _)) = bk); (try dsimp only [List.set_cons_zero, List.set_cons_succ]); (try clear g); intro g)
    refine (C2.out _).mono ?_
    rintro e w1 ⟨rfl, hb⟩
    obtain ⟨g1, rfl⟩ := G.call_ex _ hb
    clear hb
    (try clear g)
    revert g1
    intro g
    clear C2
    go_wp2_with (with_reducible refine G.any_mark _ ?_; (try generalize Array.size (World.heap (G.w _)) = bk); (try dsimp only [List.set_cons_zero, List.set_cons_succ]); (try clear g); intro g)
    refine (C3.out _).mono ?_
    rintro e w1 ⟨rfl, hb⟩
    obtain ⟨g1, rfl⟩ := G.call_ex _ hb
    clear hb
    (try clear g)
    revert g1
    intro g
    clear C3
    go_wp2_with (with_reducible refine G.any_mark _ ?_; (try generalize Array.size (World.heap (G.w _)) = bk); (try dsimp only [List.set_cons_zero, List.set_cons_succ]); (try clear g); intro g)
    refine (C4.out _).mono ?_
    rintro e w1 ⟨rfl, hb⟩
    obtain ⟨g1, rfl⟩ := G.call_ex _ hb
    clear hb
    (try clear g)
    revert g1
    intro g
    clear C4
    go_wp2_with (with_reducible refine G.any_mark _ ?_; (try generalize Array.size (World.heap (G.w _)) = bk); (try dsimp only [List.set_cons_zero, List.set_cons_succ]); (try clear g); intro g)
    refine (CL.out _).mono ?_
    rintro e w1 ⟨rfl, hb⟩
    obtain ⟨g1, rfl⟩ := G.call_ex _ hb
    clear hb
    (try clear g)
    revert g1
    intro g
    clear CL
    go_wp2_with (with_reducible refine G.any_mark _ ?_; (try generalize Array.size (World.heap (G.w _)) = bk); (try dsimp only [List.set_cons_zero, List.set_cons_succ]); (try clear g); intro g)
    refine (HH.out.1.out _).mono ?_
    rintro e w1 ⟨rfl, hb⟩
    obtain ⟨g1, rfl⟩ := G.call_ex _ hb
    clear hb
    (try clear g)
    revert g1
    intro g
    go_upto_region 9 with fail
    ((try simp only [G.drew_eq, G.drewN_eq]); (refine G.any_mark _ ?_; (try generalize Array.size (World.heap (G.w _)) = bk); (try dsimp only [List.set_cons_zero, List.set_cons_succ]); (try clear g); intro g))
    go_region_held3 (G.heldN g [true]) (simp [G.heldN, HeldN, go_sem]) (first
      | (go_at_call 15; first | ((with_reducible refine (HH.out.2.1.out _).mono ?_); rintro e w1 ⟨rfl, hb⟩; obtain ⟨g1, rfl⟩ := G.call_ex _ hb; clear hb; (try clear g); revert g1; intro g) | ((with_reducible refine (HH.out.2.2.2.1.out _).mono ?_); rintro e w1 ⟨rfl, hb⟩; obtain ⟨g1, rfl⟩ := G.call_ex _ hb; clear hb; (try clear g); revert g1; intro g))
      | (go_at_call 14; first | ((with_reducible refine (HH.out.2.2.1.out _).mono ?_); rintro e w1 ⟨rfl, hb⟩; obtain ⟨g1, rfl⟩ := G.call_ex _ hb; clear hb; (try clear g); revert g1; intro g) | ((with_reducible refine (HH.out.2.2.2.2.out _).mono ?_); rintro e w1 ⟨rfl, hb⟩; obtain ⟨g1, rfl⟩ := G.call_ex _ hb; clear hb; (try clear g); revert g1; intro g))
      | fail)
    all_goals (first | ((try simp only [G.drew_eq, G.drewN_eq]); (refine G.any_mark _ ?_; (try clear g); intro g)) | skip)
    go_wp2_with (with_reducible refine G.any_mark _ ?_; (try generalize Array.size (World.heap (G.w _)) = bk); (try dsimp only [List.set_cons_zero, List.set_cons_succ]); (try clear g); intro g)
    go_ret
    exact ⟨by simp, G.below _⟩
end Go.Proofs.Ytodigegjngnknaa
