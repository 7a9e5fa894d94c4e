/- Plain facts and contracts of functions of the program, out of walks. Their conditions stand ahead of each. -/
import Derived.Test.YtodigegjngnknaaDe30
import Derived.Below
import Derived.BigQuiet
import Derived.Deep.Draws
import Derived.Deep.LoopGhost
import Derived.Deep.QuietTactic
import Derived.Deep.RegionHeld3
import Derived.Defers
import Derived.Laws.BytesString
import Derived.Laws.Cells
import Derived.Laws.CopyOwn
import Derived.Laws.NewBlocks
import Derived.Laws.OwnMore
import Derived.Laws.Pointers
import Derived.Laws.Rows
import Derived.Lib.BitFns
import Derived.Lib.Hide
import Derived.Lib.ItoaNum
import Derived.LoopIn
import Derived.LoopNIn
import Derived.Maps.AppendAt
import Derived.OrdersIn
import Derived.OwnWalk
import Derived.OwnWalkIn
import Derived.RangeFuncBound
import Derived.RangeFuncBox
import Derived.RangeFuncCalls
import Derived.RangeFuncLeaves
import Derived.RangeFuncNested
import Derived.RowKit3
import Derived.Shelf.Abstract
import Derived.Shelf.RegionOpen
import Derived.StillTactics
import Derived.StillTailTactics
import Derived.TacticsInMore
import Derived.Test.YtodigegjngnknaaProg
import Derived.WalkKit
import Derived.WalkLawsBesides
import Derived.WalkMore
import Derived.WalkSpells
set_option linter.unusedVariables false
set_option linter.unusedSimpArgs false
set_option exponentiation.threshold 10000
namespace Go.Proofs.Ytodigegjngnknaa
open Go.RowKit GW NL Go.Shelf
attribute [local go_sem] Oper.semAt_some
set_option maxRecDepth 100000 in
set_option maxHeartbeats 2000000 in
theorem dir_b (X Y Z V W a b c : Int) (w : World) (ha : X - X = a) (hb : V - Y = b) (hc : W - Z = c) (hp : In3 100000000000 X Y Z) (hq : In3 100000000000 X V W) (hne : (Y == V) = false) (D : Nat) (hD : a.natAbs * a.natAbs + b.natAbs * b.natAbs + c.natAbs * c.natAbs = D) :
    CallsIn Fence.wide 8 Try.prog 19 #[.agg #[.int .i64 X, .int .i64 Y, .int .i64 Z], .agg #[.int .i64 X, .int .i64 V, .int .i64 W]] w fun e W' => (∃ x y z : Int, e = .returned (.tuple #[.agg #[.int .i64 x, .int .i64 y, .int .i64 z], .int .i64 0]) ∧ PartT D a x ∧ PartT D b y ∧ PartT D c z) ∧ Below w.heap.size w W' := by
  have CN := Lib.hid (fun s w h0 h1 h2 h3 h4 h5 => near2_any s X Y Z X V W w h0 h1 h2 h3 h4 h5)
  rw [decide_eq_true hp, decide_eq_true hq] at CN
  have CL := Lib.hid (fun w => less_any X V W X Y Z a b c w ha hb hc (by unfold In3 In at *; rw [IntKind.wrap_i64]; omega) (by unfold In3 In at *; rw [IntKind.wrap_i64]; omega) (by unfold In3 In at *; rw [IntKind.wrap_i64]; omega))
  have bb : ∀ i : Nat, (co a b c i).natAbs < 2 ^ 38 := by
    intro i
    unfold In3 In at *
    have : co a b c i = a ∨ co a b c i = b ∨ co a b c i = c := by
      match i with
      | 0 => exact .inl rfl
      | 1 => exact .inr (.inl rfl)
      | (_ + 2) => exact .inr (.inr rfl)
    omega
  have HBB := Lib.hid bb
  have HD := Lib.hid hD
  clear ha hb hc hp hq bb hD
  suffices hg : ∀ g : G w [] [] [heapOf w], CallsIn Fence.wide 8 Try.prog 19 #[.agg #[.int .i64 X, .int .i64 Y, .int .i64 Z], .agg #[.int .i64 X, .int .i64 V, .int .i64 W]] g.w fun e W' => (∃ x y z : Int, e = .returned (.tuple #[.agg #[.int .i64 x, .int .i64 y, .int .i64 z], .int .i64 0]) ∧ PartT D a x ∧ PartT D b y ∧ PartT D c z) ∧ Below w.heap.size w W' from hg (G.begin w)
  intro g
  refine callsIn_of_wp_marks Try.func19 rfl trivial ?_ rfl
  simp only [Try.ntmps19, List.size_toArray, List.length_cons, List.length_nil, Nat.reduceAdd, Nat.reduceSub, Array.replicate_succ, Array.replicate_zero, List.push_toArray, List.append_toArray, List.nil_append, List.cons_append]
  gi_wp2_with (first | (with_reducible refine G.any_mark _ ?_; (try generalize Array.size (World.heap (G.w _)) = bk); (try dsimp only [List.set_cons_zero, List.set_cons_succ]); (try clear g); intro g) | (refine ⟨trivial, ?_⟩; gi_at_call 34; refine (callsIn_wide.2 (CN.out _ _ (by go_simp) (by go_simp) (by go_simp) (by go_simp) (by go_simp) (by go_simp))).mono ?_; rintro e w' ⟨rfl, hb⟩; obtain ⟨g1, rfl⟩ := G.call_ex _ hb; clear hb; (try clear g); revert g1; intro g) | (refine ⟨trivial, ?_⟩; gi_at_call 36; refine (callsIn_wide.2 (CL.out _)).mono ?_; rintro e w' ⟨rfl, hb⟩; obtain ⟨g1, rfl⟩ := G.call_ex _ hb; clear hb; (try clear g); revert g1; intro g) | (refine ⟨trivial, ?_⟩; gi_at_call 44; refine (coord_in Fence.wide (8 - 1) trivial rfl _ _ _ _).mono ?_; rintro e w' ⟨rfl, rfl⟩))
  rename_i px qx rb sb hnn vb K hK db
  obtain ⟨g0, hg0⟩ := G.fix g
  rw [hg0]
  clear hg0 g
  obtain ⟨g1, hg1⟩ := G.less g0 (M' := [(db, 65, [.slice none 0 0]), (vb, 55, [.int .i64 a, .int .i64 b, .int .i64 c]), (rb, 23, [.int .i64 0, .int .i64 0, .int .i64 0])]) (by simp)
  rw [hg1]
  clear hg1 g0
  have hbs : g1.w.heap[bk]? = some (.cells [Value.int .i64 a, Value.int .i64 b, Value.int .i64 c].toArray 55 (0, 0)) := blkF_sub' g1 (by simp)
  have hb0 : g1.w.cell? ⟨bk, 0, none⟩ = some (.int .i64 a) := (cell_of_row g1.w bk 0 _ _ _ hbs).trans (by simp)
  have hb1 : g1.w.cell? ⟨bk, 1, none⟩ = some (.int .i64 b) := (cell_of_row g1.w bk 1 _ _ _ hbs).trans (by simp)
  have hb2 : g1.w.cell? ⟨bk, 2, none⟩ = some (.int .i64 c) := (cell_of_row g1.w bk 2 _ _ _ hbs).trans (by simp)
  have hbl : bk < g1.w.heap.size := (Array.getElem?_eq_some_iff.1 hbs).1
  refine wpIn_rangeFunc_ownG rfl (by omega) (gf := 72) (lb := #[.pointer (some ⟨bk, 0, none⟩)]) rfl trivial (enters_of Try.func72 (by kernel_rfl) rfl)
    (coord_stopsK Fence.wide (8 - 1) trivial rfl (by omega) bk a b c (fun _ _ => True) g1.w hbl hb0 hb1 hb2) (fun _ _ => trivial) (fun _ _ _ _ _ _ _ _ => trivial) (Below.refl _ _) (fun _ => rfl)
    (fun pre W => ∃ (A : Option Addr) (c1 : Nat) (F : Frag), F.Sl A c1 (limbs (sumq a b c pre)) ∧ (∀ k o, F k = some o → o.isCells = true) ∧ ∃ g : G w [] [(db, 65, [.slice A (limbs (sumq a b c pre)).length c1]), (vb, 55, [.int .i64 a, .int .i64 b, .int .i64 c]), (rb, 23, [.int .i64 0, .int .i64 0, .int .i64 0])] [F, blkF bk (.cells [Value.int .i64 a, Value.int .i64 b, Value.int .i64 c].toArray 55 (0, 0)), heapOf w], W = g.w)
    (fun c pre W => False)
    (fun s W W' row hs hg hr => by
      obtain ⟨A, c1, F, h1, h2, g, rfl⟩ := hs
      obtain ⟨g', e⟩ := g.grown_ex (B := g1.w.heap.size) g1.chg.size (cells_ok2 g1.chg.size h2) hg hr
      exact ⟨A, c1, F, h1, h2, g', e⟩)
    (fun c s W W' row hs hg hr => hs)
    ⟨none, 0, fun _ => none, by rw [show sumq a b c [] = 0 from rfl, limbs_zero]; exact Frag.Sl.nil _ _, fun k o h => (by cases h), by
      rw [show sumq a b c [] = 0 from rfl, limbs_zero]
      exact ⟨g1.see (fun _ => none) (fun k o h => (by cases h)) (fun k o h => (by cases h)), rfl⟩⟩
    (fun x => { tmps := #[.agg #[.int .i64 X, .int .i64 Y, .int .i64 Z], .agg #[.int .i64 X, .int .i64 V, .int .i64 W], .pointer (some ⟨px, 0, none⟩), .pointer (some ⟨qx, 0, none⟩), .pointer (some ⟨rb, 0, none⟩), .int .i64 0, .int .i64 (nearE true), .pointer (some ⟨vb, 0, none⟩), .pointer (some ⟨db, 0, none⟩), undef, .int .i64 (co a b c x.val), undef, undef, undef, undef, undef, .agg #[.int .i64 X, .int .i64 Y, .int .i64 Z], .agg #[.int .i64 X, .int .i64 V, .int .i64 W], .slice (some ⟨sb, 0, none⟩) 2 2, .int .i64 (nearE true), .int .i64 (nearE true), .bool false, undef, undef, .agg #[.int .i64 X, .int .i64 Y, .int .i64 Z], .agg #[.int .i64 X, .int .i64 V, .int .i64 W], .bool false, undef, .agg #[.int .i64 X, .int .i64 V, .int .i64 W], .agg #[.int .i64 X, .int .i64 V, .int .i64 W], .agg #[.int .i64 X, .int .i64 Y, .int .i64 Z], .agg #[.int .i64 X, .int .i64 Y, .int .i64 Z], .agg #[.int .i64 a, .int .i64 b, .int .i64 c], .agg #[.int .i64 a, .int .i64 b, .int .i64 c], .func (.func 72) #[] #[.pointer (some ⟨bk, 0, none⟩)], .int .i64 ((x.val : Nat) : Int), .int .i64 (co a b c x.val), undef, undef, undef, undef, undef, undef, undef, undef, undef, undef, undef, undef, undef, undef, undef, undef, undef, undef, undef, undef, undef, undef, undef, undef, undef, undef, undef, undef, undef, undef, undef, undef, undef, undef, undef, undef], defers := [] }) ?assign ?body ?done ?stop
  case assign =>
    intro l x W K hK
    gi_wp2
    exact hK
  case stop => intro D c pre W _ _ h _; exact h.elim
  case body =>
    rintro lp pre x W1 ⟨A, c1, F, hF, hF2, g, rfl⟩ hlt
    refine G.at_rebase g (fun h' => ?_)
    have hsn := sumq_snoc a b c pre x
    have hsl := sumq_le a b c HBB.out pre
    have hx38 := HBB.out x.val
    have hxx : sq3 a b c x.val < 2 ^ 76 := sq_lt2 hx38 hx38
    obtain ⟨y, hy⟩ : ∃ y, co a b c x.val = y := ⟨_, rfl⟩
    have CS := Lib.hid (fun w => dsq_any (co a b c x.val) _ rfl (by omega) w)
    have hq : (co a b c x.val).natAbs * (co a b c x.val).natAbs = sq3 a b c x.val := rfl
    rw [hq, hy] at CS
    rw [hy]
    obtain ⟨s, hs⟩ : ∃ s, sumq a b c pre = s := ⟨_, rfl⟩
    obtain ⟨q, hq2⟩ : ∃ q, sq3 a b c x.val = q := ⟨_, rfl⟩
    rw [hs] at hF hsl hsn
    rw [hq2] at hxx CS hsn
    have hs80 : s < 2 ^ 80 := by omega
    have HSN := Lib.hid hsn
    obtain ⟨g0, hg0⟩ : ∃ g0 : G g.w [db, vb, rb] [(db, 65, [.slice A (limbs s).length c1]), (vb, 55, [.int .i64 a, .int .i64 b, .int .i64 c]), (rb, 23, [.int .i64 0, .int .i64 0, .int .i64 0])] [F, blkF bk (.cells [Value.int .i64 a, Value.int .i64 b, Value.int .i64 c].toArray 55 (0, 0)), heapOf w], h'.w = g0.w := by subst hs; exact ⟨h', rfl⟩
    rw [hg0]
    clear hg0 h'
    have CA := Lib.hid (fun A1 A2 c1 c2 w h1 h2 => Add_ok A1 A2 c1 c2 s q w h1 h2 (p8192 hs80 (by decide)) (p8192 hxx (by decide)) (p8192 (k := 82) (by omega) (by decide)))
    unfold RLim at CS
    unfold RNE at CA
    dsimp only at CA
    generalize hl1 : (limbs s).length = ls at *
    generalize hl2 : (limbs q).length = lq at *
    generalize hl3 : (limbs (s + q)).length = lsq at *
    have HL3 := Lib.hid hl3
    clear hl1 hl2 hl3 hbs hb0 hb1 hb2 hbl hs hq2 hq hsn hsl hx38 hxx hs80 hy
    gi_wp2_with fail
    refine wpIn_round_held (S := fun _ => True) (by kernel_rfl) (by rintro ⟨a, w, h⟩; exact h) (by kernel_rfl) trivial (fun hHeld => ?_)
    refine wpAnyH_take (i := 1) (v := ?_) rfl (by kernel_rfl) (by kernel_rfl) (by kernel_rfl) (fun _ _ _ h => h) (Or.inl ⟨by rfl, ?_⟩) (by assumption) ?_
    rotate_left 1
    · (intro w hSw; (try dsimp only at hSw); go_simp; (try with_reducible rfl))
    (try simp only [Act.put, List.setIfInBounds_toArray, List.set_cons_zero, List.set_cons_succ])
    refine wpAnyH_ready (rs := [0, 2]) (by kernel_rfl) (by simp) ?_
    refine AllReadyH.cons rfl (fun K hK => ?_) (AllReadyH.cons rfl (fun K hK => ?_) AllReadyH.nil)
    · (as_aux_lemma =>
      go_simp
      refine hK.out _ _ trivial (fun hHeld => ?_)
      clear hK K
      (try simp only [Act.put, List.setIfInBounds_toArray, List.set_cons_zero, List.set_cons_succ])
      refine wpAnyH_ready (rs := [2]) (by kernel_rfl) (by simp) ?_
      refine AllReadyH.cons rfl (fun K hK => ?_) AllReadyH.nil
      go_simp
      refine (CS.out _).mono ?_
      rintro e w' ⟨Aq, cq, Fq, rfl, hsq, hn⟩
      obtain ⟨g1', rfl⟩ := G.new_ex _ hn
      clear hn
      (try clear g0)
      revert g1'
      intro g0
      dsimp only
      refine hK.out _ _ trivial (fun hHeld => ?_)
      clear hK K
      (try simp only [Act.put, List.setIfInBounds_toArray, List.set_cons_zero, List.set_cons_succ])
      refine wpAnyH_ready (rs := [3]) (by kernel_rfl) (by simp) ?_
      refine AllReadyH.cons rfl (fun K hK => ?_) AllReadyH.nil
      go_simp
      refine (CA.out _ _ _ _ _ (G.sl g0 (by simp) hF) (G.sl g0 (by simp) hsq)).mono ?_
      rintro e w' ⟨Ar, cr, Fr, rfl, hsr, hn⟩
      obtain ⟨g1', rfl⟩ := G.new_ex _ hn
      clear hn
      (try clear g0)
      revert g1'
      intro g0
      dsimp only
      refine hK.out _ _ trivial (fun hHeld => ?_)
      clear hK K
      (try simp only [Act.put, List.setIfInBounds_toArray, List.set_cons_zero, List.set_cons_succ])
      refine wpAnyH_take (i := 4) (v := ?_) rfl (by kernel_rfl) (by kernel_rfl) (by kernel_rfl) (fun _ _ _ h => h) (Or.inl ⟨by rfl, ?_⟩) (by assumption) ?_
      rotate_left 1
      · (intro w hSw; (try dsimp only at hSw); go_simp; (try with_reducible rfl))
      (try simp only [Act.put, List.setIfInBounds_toArray, List.set_cons_zero, List.set_cons_succ])
      refine wpAnyH_take (i := 5) (v := ?_) rfl (by kernel_rfl) (by kernel_rfl) (by kernel_rfl) (fun _ _ _ h => h) (Or.inl ⟨by rfl, ?_⟩) (by assumption) ?_
      rotate_left 1
      · (intro w hSw; (try dsimp only at hSw); go_simp; (try with_reducible rfl))
      (try simp only [Act.put, List.setIfInBounds_toArray, List.set_cons_zero, List.set_cons_succ])
      refine wpAnyH_take (i := 6) (v := ?_) rfl (by kernel_rfl) (by kernel_rfl) (by kernel_rfl) (fun _ _ _ h => h) (Or.inl ⟨by rfl, ?_⟩) (by assumption) ?_
      rotate_left 1
      · (intro w hSw; (try dsimp only at hSw); go_simp; (try with_reducible rfl))
      (try simp only [Act.put, List.setIfInBounds_toArray, List.set_cons_zero, List.set_cons_succ])
      refine wpAnyH_ready (rs := [7]) (by kernel_rfl) (by simp) ?_
      refine AllReadyH.cons rfl (fun K hK => ?_) AllReadyH.nil
      go_simp
      refine G.any_mark _ ?_
      (try dsimp only [List.set_cons_zero, List.set_cons_succ])
      clear g0 hHeld
      intro g0
      refine hK.out _ _ trivial (fun hHeld => ?_)
      clear hK K
      (try simp only [Act.put, List.setIfInBounds_toArray, List.set_cons_zero, List.set_cons_succ])
      refine wpAnyH_done (by kernel_rfl) ?_ _
      gi_wp2_with fail
      obtain ⟨g2, hg2⟩ := G.lessI g0 (I' := [Fr, blkF bk (.cells [Value.int .i64 a, Value.int .i64 b, Value.int .i64 c].toArray 55 (0, 0)), heapOf w]) (by simp)
      obtain ⟨g3, hg3⟩ := G.only g2
      obtain ⟨g4, hg4⟩ := G.unbase2 g g3 rfl
      rw [hg2, hg3]
      exact ⟨(G.keeps2 g g3).from _, trivial, Ar, cr, onlyF Fr, by rw [HSN.out]; exact onlyF_sl hsr, fun k o h => (onlyF_sub h).2, by rw [HSN.out, HL3.out]; exact ⟨g4, hg4⟩⟩)
    · (as_aux_lemma =>
      go_simp
      refine (CS.out _).mono ?_
      rintro e w' ⟨Aq, cq, Fq, rfl, hsq, hn⟩
      obtain ⟨g1', rfl⟩ := G.new_ex _ hn
      clear hn
      (try clear g0)
      revert g1'
      intro g0
      dsimp only
      refine hK.out _ _ trivial (fun hHeld => ?_)
      clear hK K
      (try simp only [Act.put, List.setIfInBounds_toArray, List.set_cons_zero, List.set_cons_succ])
      refine wpAnyH_ready (rs := [0]) (by kernel_rfl) (by simp) ?_
      refine AllReadyH.cons rfl (fun K hK => ?_) AllReadyH.nil
      go_simp
      refine hK.out _ _ trivial (fun hHeld => ?_)
      clear hK K
      (try simp only [Act.put, List.setIfInBounds_toArray, List.set_cons_zero, List.set_cons_succ])
      refine wpAnyH_ready (rs := [3]) (by kernel_rfl) (by simp) ?_
      refine AllReadyH.cons rfl (fun K hK => ?_) AllReadyH.nil
      go_simp
      refine (CA.out _ _ _ _ _ (G.sl g0 (by simp) hF) (G.sl g0 (by simp) hsq)).mono ?_
      rintro e w' ⟨Ar, cr, Fr, rfl, hsr, hn⟩
      obtain ⟨g1', rfl⟩ := G.new_ex _ hn
      clear hn
      (try clear g0)
      revert g1'
      intro g0
      dsimp only
      refine hK.out _ _ trivial (fun hHeld => ?_)
      clear hK K
      (try simp only [Act.put, List.setIfInBounds_toArray, List.set_cons_zero, List.set_cons_succ])
      refine wpAnyH_take (i := 4) (v := ?_) rfl (by kernel_rfl) (by kernel_rfl) (by kernel_rfl) (fun _ _ _ h => h) (Or.inl ⟨by rfl, ?_⟩) (by assumption) ?_
      rotate_left 1
      · (intro w hSw; (try dsimp only at hSw); go_simp; (try with_reducible rfl))
      (try simp only [Act.put, List.setIfInBounds_toArray, List.set_cons_zero, List.set_cons_succ])
      refine wpAnyH_take (i := 5) (v := ?_) rfl (by kernel_rfl) (by kernel_rfl) (by kernel_rfl) (fun _ _ _ h => h) (Or.inl ⟨by rfl, ?_⟩) (by assumption) ?_
      rotate_left 1
      · (intro w hSw; (try dsimp only at hSw); go_simp; (try with_reducible rfl))
      (try simp only [Act.put, List.setIfInBounds_toArray, List.set_cons_zero, List.set_cons_succ])
      refine wpAnyH_take (i := 6) (v := ?_) rfl (by kernel_rfl) (by kernel_rfl) (by kernel_rfl) (fun _ _ _ h => h) (Or.inl ⟨by rfl, ?_⟩) (by assumption) ?_
      rotate_left 1
      · (intro w hSw; (try dsimp only at hSw); go_simp; (try with_reducible rfl))
      (try simp only [Act.put, List.setIfInBounds_toArray, List.set_cons_zero, List.set_cons_succ])
      refine wpAnyH_ready (rs := [7]) (by kernel_rfl) (by simp) ?_
      refine AllReadyH.cons rfl (fun K hK => ?_) AllReadyH.nil
      go_simp
      refine G.any_mark _ ?_
      (try dsimp only [List.set_cons_zero, List.set_cons_succ])
      clear g0 hHeld
      intro g0
      refine hK.out _ _ trivial (fun hHeld => ?_)
      clear hK K
      (try simp only [Act.put, List.setIfInBounds_toArray, List.set_cons_zero, List.set_cons_succ])
      refine wpAnyH_done (by kernel_rfl) ?_ _
      gi_wp2_with fail
      obtain ⟨g2, hg2⟩ := G.lessI g0 (I' := [Fr, blkF bk (.cells [Value.int .i64 a, Value.int .i64 b, Value.int .i64 c].toArray 55 (0, 0)), heapOf w]) (by simp)
      obtain ⟨g3, hg3⟩ := G.only g2
      obtain ⟨g4, hg4⟩ := G.unbase2 g g3 rfl
      rw [hg2, hg3]
      exact ⟨(G.keeps2 g g3).from _, trivial, Ar, cr, onlyF Fr, by rw [HSN.out]; exact onlyF_sl hsr, fun k o h => (onlyF_sub h).2, by rw [HSN.out, HL3.out]; exact ⟨g4, hg4⟩⟩)
  case done =>
    rintro E1 ys W1 hE rfl ⟨A, c1, F, hF, hF2, g, rfl⟩ hKd
    obtain ⟨g2, hg2⟩ := g.seeD hKd rfl
    rw [hg2]
    clear hg2 hKd
    rw [sumq_all, HD.out] at hF
    have hsz := Nat.le_trans g1.chg.size hE
    obtain ⟨gD, hgD⟩ : ∃ gD : G w [] [(db, 65, [.slice A (limbs D).length c1]), (vb, 55, [.int .i64 a, .int .i64 b, .int .i64 c]), (rb, 23, [.int .i64 0, .int .i64 0, .int .i64 0])] [blkF E1 (.deferred (some [])), F, heapOf w], g2.w = gD.w := by
      obtain ⟨g3, hg3⟩ := G.lessI g2 (I' := [blkF E1 (.deferred (some [])), F, heapOf w]) (by simp)
      have e : (limbs (sumq a b c (List.finRange 3))).length = (limbs D).length := by rw [sumq_all, HD.out]
      rw [hg3]
      clear hg3
      revert g3
      rw [e]
      intro g3
      exact ⟨g3, rfl⟩
    rw [hgD]
    clear hgD g2 g hbs hb0 hb1 hb2 hbl
    revert gD
    intro g
    rename_i hx1
    obtain ⟨bo, hbo⟩ : ∃ bo : Nat, bk = bo := ⟨_, rfl⟩
    rw [hbo]
    clear hbo
    gi_wp2_with (first | (with_reducible refine G.any_mark _ ?_; (try generalize Array.size (World.heap (G.w _)) = bk); (try dsimp only [List.set_cons_zero, List.set_cons_succ]); (try clear g); intro g) | (refine ⟨trivial, ?_⟩; gi_at_call 44; refine (coord_in Fence.wide (8 - 1) trivial rfl _ _ _ _).mono ?_; rintro e w' ⟨rfl, rfl⟩))
    rename_i ob
    obtain ⟨g0, hg0⟩ := G.fix g
    rw [hg0]
    clear hg0 g
    obtain ⟨g2, hg2⟩ := G.less g0 (M' := [(ob, 72, [.int .i64 0, .int .i64 0, .int .i64 0]), (db, 65, [.slice A (limbs D).length c1]), (rb, 23, [.int .i64 0, .int .i64 0, .int .i64 0])]) (by simp)
    rw [hg2]
    clear hg2 g0
    have hbs : g2.w.heap[bk]? = some (.cells [Value.int .i64 a, Value.int .i64 b, Value.int .i64 c].toArray 55 (0, 0)) := blkF_sub' g2 (by simp)
    have hb0 : g2.w.cell? ⟨bk, 0, none⟩ = some (.int .i64 a) := (cell_of_row g2.w bk 0 _ _ _ hbs).trans (by simp)
    have hb1 : g2.w.cell? ⟨bk, 1, none⟩ = some (.int .i64 b) := (cell_of_row g2.w bk 1 _ _ _ hbs).trans (by simp)
    have hb2 : g2.w.cell? ⟨bk, 2, none⟩ = some (.int .i64 c) := (cell_of_row g2.w bk 2 _ _ _ hbs).trans (by simp)
    have hbl : bk < g2.w.heap.size := (Array.getElem?_eq_some_iff.1 hbs).1
    have hbE : g2.w.heap[E1]? = some (.deferred (some [])) := blkF_sub' g2 (by simp)
    have hEl : E1 < g2.w.heap.size := (Array.getElem?_eq_some_iff.1 hbE).1
    refine wpIn_rangeFunc_ownG rfl (by omega) (gf := 72) (lb := #[.pointer (some ⟨bk, 0, none⟩)]) rfl trivial (enters_of Try.func72 (by kernel_rfl) rfl)
      (coord_stopsK Fence.wide (8 - 1) trivial rfl (by omega) bk a b c (fun _ _ => True) g2.w hbl hb0 hb1 hb2) (fun _ _ => trivial) (fun _ _ _ _ _ _ _ _ => trivial) (Below.refl _ _) (fun _ => rfl)
      (fun pre W => ∃ o0 o1 o2 : Int, ((0 : Fin 3) ∈ pre → PartT D a o0) ∧ ((1 : Fin 3) ∈ pre → PartT D b o1) ∧ ((2 : Fin 3) ∈ pre → PartT D c o2) ∧ ∃ g : G w [] [(ob, 72, [.int .i64 o0, .int .i64 o1, .int .i64 o2]), (db, 65, [.slice A (limbs D).length c1]), (rb, 23, [.int .i64 0, .int .i64 0, .int .i64 0])] [blkF bk (.cells [Value.int .i64 a, Value.int .i64 b, Value.int .i64 c].toArray 55 (0, 0)), blkF E1 (.deferred (some [])), F, heapOf w], W = g.w)
      (fun c pre W => False)
      (fun s W W' row hs hg hr => by
        obtain ⟨o0, o1, o2, q0, q1, q2, g, rfl⟩ := hs
        obtain ⟨g', e⟩ := g.grown_ex (B := g2.w.heap.size) g2.chg.size (cells_ok3 g2.chg.size hEl hF2) hg hr
        exact ⟨o0, o1, o2, q0, q1, q2, g', e⟩)
      (fun c s W W' row hs hg hr => hs)
      ⟨0, 0, 0, (by simp), (by simp), (by simp), g2, rfl⟩
      (fun x => { tmps := #[.agg #[.int .i64 X, .int .i64 Y, .int .i64 Z], .agg #[.int .i64 X, .int .i64 V, .int .i64 W], .pointer (some ⟨px, 0, none⟩), .pointer (some ⟨qx, 0, none⟩), .pointer (some ⟨rb, 0, none⟩), .int .i64 0, .int .i64 (nearE true), .pointer (some ⟨vb, 0, none⟩), .pointer (some ⟨db, 0, none⟩), undef, undef, .pointer (some ⟨ob, 0, none⟩), .int .i64 ((x.val : Nat) : Int), .int .i64 (co a b c x.val), undef, undef, .agg #[.int .i64 X, .int .i64 Y, .int .i64 Z], .agg #[.int .i64 X, .int .i64 V, .int .i64 W], .slice (some ⟨sb, 0, none⟩) 2 2, .int .i64 (nearE true), .int .i64 (nearE true), .bool false, undef, undef, .agg #[.int .i64 X, .int .i64 Y, .int .i64 Z], .agg #[.int .i64 X, .int .i64 V, .int .i64 W], .bool false, undef, .agg #[.int .i64 X, .int .i64 V, .int .i64 W], .agg #[.int .i64 X, .int .i64 V, .int .i64 W], .agg #[.int .i64 X, .int .i64 Y, .int .i64 Z], .agg #[.int .i64 X, .int .i64 Y, .int .i64 Z], .agg #[.int .i64 a, .int .i64 b, .int .i64 c], .agg #[.int .i64 a, .int .i64 b, .int .i64 c], .func (.func 72) #[] #[.pointer (some ⟨bo, 0, none⟩)], undef, undef, undef, undef, undef, undef, undef, undef, undef, .agg #[.int .i64 a, .int .i64 b, .int .i64 c], .func (.func 72) #[] #[.pointer (some ⟨bk, 0, none⟩)], .int .i64 ((x.val : Nat) : Int), .int .i64 (co a b c x.val), undef, undef, undef, undef, undef, undef, undef, undef, undef, undef, undef, undef, undef, undef, undef, undef, undef, undef, undef, undef, undef, undef, undef, undef, undef], defers := [] }) ?assign ?body ?done ?stop
    case assign =>
      intro l x W K hK
      gi_wp2
      exact hK
    case stop => intro D c pre W _ _ h _; exact h.elim
    case body =>
      rintro lp pre x W1 ⟨o0, o1, o2, q0, q1, q2, g, rfl⟩ hlt
      refine G.at_rebase g (fun h' => ?_)
      clear hbs hb0 hb1 hb2 hbl hbE CN CL hlt
      obtain ⟨y, hy⟩ : ∃ y, co a b c x.val = y := ⟨_, rfl⟩
      obtain ⟨n, hn⟩ : ∃ n, y.natAbs = n := ⟨_, rfl⟩
      have n38 : n < 2 ^ 38 := by rw [← hn, ← hy]; exact HBB.out x.val
      have n62 : n < 2 ^ 62 := by omega
      have nn : n * n < 2 ^ 76 := sq_lt2 n38 n38
      have nL : n * n * 4611686018427387904 < 2 ^ 140 := sq_lt2 nn (show 4611686018427387904 < 2 ^ 64 by decide)
      have CS := Lib.hid (fun w => dsq_any y n hn n62 w)
      have CH := Lib.hid (fun A c w h => Shift_up A c (n * n) 62 w h (p8192 nn (by decide)) (by decide))
      have eo : outN 0 (n * n * 2 ^ 62) = (n * n * 4611686018427387904, 0) := by
        unfold outN
        rw [show (2 : Nat) ^ 62 = 4611686018427387904 by decide]
        rw [if_neg (by decide), if_pos (p8192 nL (by decide))]
      rw [eo] at CH
      obtain ⟨L, hL⟩ : ∃ L, n * n * 4611686018427387904 = L := ⟨_, rfl⟩
      rw [hL] at CH nL
      have dD : D < 2 ^ 200 := by
        have h1 := sumq_le a b c HBB.out (List.finRange 3)
        rw [sumq_all, HD.out] at h1
        have : (List.finRange 3).length = 3 := by simp
        rw [this] at h1
        omega
      have CT := Lib.hid (fun b2 A2 c2 w h1 h2 h3 h4 => last_any db b2 A A2 c1 c2 D L w h1 h2 h3 h4 dD (Nat.lt_of_lt_of_le nL (Nat.pow_le_pow_right (by decide) (by decide))))
      have HP : Hid (∀ u : Int, 0 ≤ u → u ≤ 1073741824 → (u = 0 ∨ Yes D L u) → (u = 1073741824 ∨ ¬ Yes D L (u + 1)) → PartT D y (if y < 0 then -u else u)) :=
        Lib.hid (fun u h0 h1 h2 h3 => ⟨u, rfl, h0, h1, by rw [hn, hL]; exact h2, by rw [hn, hL]; exact h3⟩)
      unfold RLim at CS
      unfold RNE at CH
      dsimp only at CH
      generalize hl1 : (limbs (n * n)).length = lq at *
      generalize hl2 : (limbs L).length = lL at *
      generalize hl3 : (limbs D).length = lD at *
      clear hl1 hl2 hl3 n38 n62 nn nL eo hL dD hn
      obtain ⟨xi, hxi⟩ : ∃ xi : Int, ((x.val : Nat) : Int) = xi := ⟨_, rfl⟩
      rw [hy, hxi]
      have hx3 : x = 0 ∨ x = 1 ∨ x = 2 := by
        obtain ⟨i, hi⟩ := x
        have : i = 0 ∨ i = 1 ∨ i = 2 := by omega
        rcases this with rfl | rfl | rfl
        · exact .inl rfl
        · exact .inr (.inl rfl)
        · exact .inr (.inr rfl)
      have HQ := Lib.hid (And.intro q0 (And.intro q1 q2))
      clear q0 q1 q2
      rcases hx3 with rfl | rfl | rfl
      · obtain rfl : xi = 0 := by rw [← hxi]; rfl
        have hya : a = y := hy
        have HYA := Lib.hid hya
        clear hy hya hxi
        by_cases hneg : y < 0
        · (as_aux_lemma =>
          have HNE := Lib.hid hneg
          gi_wp2_with (first | (with_reducible refine G.any_mark _ ?_; (try generalize Array.size (World.heap (G.w _)) = bk2); (try dsimp only [List.set_cons_zero, List.set_cons_succ]); (try clear h'); intro h') | (refine ⟨trivial, ?_⟩; gi_at_call 46; refine (CallsIn.inRound lp (callsIn_wide.2 (CS.out _))).mono ?_; rintro e w' ⟨Aq, cq, Fq, rfl, hsq, hn⟩; obtain ⟨g1', rfl⟩ := G.new_ex _ hn; clear hn; (try clear h'); revert g1'; intro h') | (refine ⟨trivial, ?_⟩; gi_at_call 47; refine (CallsIn.inRound lp (callsIn_wide.2 (CH.out _ _ _ (G.sl h' (by simp) hsq)))).mono ?_; rintro e w' ⟨Al, cl, Fl, rfl, hsl, hn⟩; obtain ⟨g1', rfl⟩ := G.new_ex _ hn; clear hn; (try clear h'); revert g1'; intro h') | (refine ⟨trivial, ?_⟩; gi_at_call 48; refine CallsIn.inRound lp (callsIn_wide.2 ?_); refine cmk _ ?_; (try dsimp only [List.set_cons_zero, List.set_cons_succ]); (try clear h'); intro h'; refine ((CT.out _ _ _ _ (by go_simp) (by go_simp) (G.sl h' (by simp) hF) (G.sl h' (by simp) hsl))).mono ?_; rintro e w' ⟨⟨u, rfl, hu0, hu1, hu2, hu3⟩, hb⟩; obtain ⟨g1', rfl⟩ := G.call_ex _ hb; have hwu : IntKind.i64.wrap (-u) = -u := (by rw [IntKind.wrap_i64]; omega); have HU := Lib.hid (HP.out u hu0 hu1 hu2 hu3); clear hb hu0 hu1 hu2 hu3; (try clear h'); revert g1'; intro h'))
          have HR := HU.out
          rw [if_pos HNE.out] at HR
          refine G.any_mark _ ?_
          (try dsimp only [List.set_cons_zero, List.set_cons_succ])
          clear h'
          intro h'
          obtain ⟨h2, e2⟩ := G.less h' (M' := [(ob, 72, [.int .i64 (-u), .int .i64 o1, .int .i64 o2]), (db, 65, [.slice A lD c1]), (rb, 23, [.int .i64 0, .int .i64 0, .int .i64 0])]) (by simp)
          obtain ⟨h3, e3⟩ := G.lessI h2 (I' := [blkF bk (.cells [Value.int .i64 a, Value.int .i64 b, Value.int .i64 c].toArray 55 (0, 0)), blkF E1 (.deferred (some [])), F, heapOf w]) (by simp)
          obtain ⟨g4, e4⟩ := G.unbase2 g h3 rfl
          rw [e2, e3]
          exact ⟨(G.keeps2 g h3).from _, trivial, (-u), o1, o2, (fun _ => by have := HR; rw [← HYA.out] at this; exact this), (fun hm => HQ.out.2.1 ((List.mem_append.1 hm).elim id (fun e => absurd (List.mem_singleton.1 e) (by decide)))), (fun hm => HQ.out.2.2 ((List.mem_append.1 hm).elim id (fun e => absurd (List.mem_singleton.1 e) (by decide)))), g4, e4⟩)
        · (as_aux_lemma =>
          have HNE := Lib.hid hneg
          gi_wp2_with (first | (with_reducible refine G.any_mark _ ?_; (try generalize Array.size (World.heap (G.w _)) = bk2); (try dsimp only [List.set_cons_zero, List.set_cons_succ]); (try clear h'); intro h') | (refine ⟨trivial, ?_⟩; gi_at_call 46; refine (CallsIn.inRound lp (callsIn_wide.2 (CS.out _))).mono ?_; rintro e w' ⟨Aq, cq, Fq, rfl, hsq, hn⟩; obtain ⟨g1', rfl⟩ := G.new_ex _ hn; clear hn; (try clear h'); revert g1'; intro h') | (refine ⟨trivial, ?_⟩; gi_at_call 47; refine (CallsIn.inRound lp (callsIn_wide.2 (CH.out _ _ _ (G.sl h' (by simp) hsq)))).mono ?_; rintro e w' ⟨Al, cl, Fl, rfl, hsl, hn⟩; obtain ⟨g1', rfl⟩ := G.new_ex _ hn; clear hn; (try clear h'); revert g1'; intro h') | (refine ⟨trivial, ?_⟩; gi_at_call 48; refine CallsIn.inRound lp (callsIn_wide.2 ?_); refine cmk _ ?_; (try dsimp only [List.set_cons_zero, List.set_cons_succ]); (try clear h'); intro h'; refine ((CT.out _ _ _ _ (by go_simp) (by go_simp) (G.sl h' (by simp) hF) (G.sl h' (by simp) hsl))).mono ?_; rintro e w' ⟨⟨u, rfl, hu0, hu1, hu2, hu3⟩, hb⟩; obtain ⟨g1', rfl⟩ := G.call_ex _ hb; have hwu : IntKind.i64.wrap (-u) = -u := (by rw [IntKind.wrap_i64]; omega); have HU := Lib.hid (HP.out u hu0 hu1 hu2 hu3); clear hb hu0 hu1 hu2 hu3; (try clear h'); revert g1'; intro h'))
          have HR := HU.out
          rw [if_neg (show ¬ y < 0 by have := HNE.out; omega)] at HR
          refine G.any_mark _ ?_
          (try dsimp only [List.set_cons_zero, List.set_cons_succ])
          clear h'
          intro h'
          obtain ⟨h2, e2⟩ := G.less h' (M' := [(ob, 72, [.int .i64 u, .int .i64 o1, .int .i64 o2]), (db, 65, [.slice A lD c1]), (rb, 23, [.int .i64 0, .int .i64 0, .int .i64 0])]) (by simp)
          obtain ⟨h3, e3⟩ := G.lessI h2 (I' := [blkF bk (.cells [Value.int .i64 a, Value.int .i64 b, Value.int .i64 c].toArray 55 (0, 0)), blkF E1 (.deferred (some [])), F, heapOf w]) (by simp)
          obtain ⟨g4, e4⟩ := G.unbase2 g h3 rfl
          rw [e2, e3]
          exact ⟨(G.keeps2 g h3).from _, trivial, u, o1, o2, (fun _ => by have := HR; rw [← HYA.out] at this; exact this), (fun hm => HQ.out.2.1 ((List.mem_append.1 hm).elim id (fun e => absurd (List.mem_singleton.1 e) (by decide)))), (fun hm => HQ.out.2.2 ((List.mem_append.1 hm).elim id (fun e => absurd (List.mem_singleton.1 e) (by decide)))), g4, e4⟩)
      · obtain rfl : xi = 1 := by rw [← hxi]; rfl
        have hya : b = y := hy
        have HYA := Lib.hid hya
        clear hy hya hxi
        by_cases hneg : y < 0
        · (as_aux_lemma =>
          have HNE := Lib.hid hneg
          gi_wp2_with (first | (with_reducible refine G.any_mark _ ?_; (try generalize Array.size (World.heap (G.w _)) = bk2); (try dsimp only [List.set_cons_zero, List.set_cons_succ]); (try clear h'); intro h') | (refine ⟨trivial, ?_⟩; gi_at_call 46; refine (CallsIn.inRound lp (callsIn_wide.2 (CS.out _))).mono ?_; rintro e w' ⟨Aq, cq, Fq, rfl, hsq, hn⟩; obtain ⟨g1', rfl⟩ := G.new_ex _ hn; clear hn; (try clear h'); revert g1'; intro h') | (refine ⟨trivial, ?_⟩; gi_at_call 47; refine (CallsIn.inRound lp (callsIn_wide.2 (CH.out _ _ _ (G.sl h' (by simp) hsq)))).mono ?_; rintro e w' ⟨Al, cl, Fl, rfl, hsl, hn⟩; obtain ⟨g1', rfl⟩ := G.new_ex _ hn; clear hn; (try clear h'); revert g1'; intro h') | (refine ⟨trivial, ?_⟩; gi_at_call 48; refine CallsIn.inRound lp (callsIn_wide.2 ?_); refine cmk _ ?_; (try dsimp only [List.set_cons_zero, List.set_cons_succ]); (try clear h'); intro h'; refine ((CT.out _ _ _ _ (by go_simp) (by go_simp) (G.sl h' (by simp) hF) (G.sl h' (by simp) hsl))).mono ?_; rintro e w' ⟨⟨u, rfl, hu0, hu1, hu2, hu3⟩, hb⟩; obtain ⟨g1', rfl⟩ := G.call_ex _ hb; have hwu : IntKind.i64.wrap (-u) = -u := (by rw [IntKind.wrap_i64]; omega); have HU := Lib.hid (HP.out u hu0 hu1 hu2 hu3); clear hb hu0 hu1 hu2 hu3; (try clear h'); revert g1'; intro h'))
          have HR := HU.out
          rw [if_pos HNE.out] at HR
          refine G.any_mark _ ?_
          (try dsimp only [List.set_cons_zero, List.set_cons_succ])
          clear h'
          intro h'
          obtain ⟨h2, e2⟩ := G.less h' (M' := [(ob, 72, [.int .i64 o0, .int .i64 (-u), .int .i64 o2]), (db, 65, [.slice A lD c1]), (rb, 23, [.int .i64 0, .int .i64 0, .int .i64 0])]) (by simp)
          obtain ⟨h3, e3⟩ := G.lessI h2 (I' := [blkF bk (.cells [Value.int .i64 a, Value.int .i64 b, Value.int .i64 c].toArray 55 (0, 0)), blkF E1 (.deferred (some [])), F, heapOf w]) (by simp)
          obtain ⟨g4, e4⟩ := G.unbase2 g h3 rfl
          rw [e2, e3]
          exact ⟨(G.keeps2 g h3).from _, trivial, o0, (-u), o2, (fun hm => HQ.out.1 ((List.mem_append.1 hm).elim id (fun e => absurd (List.mem_singleton.1 e) (by decide)))), (fun _ => by have := HR; rw [← HYA.out] at this; exact this), (fun hm => HQ.out.2.2 ((List.mem_append.1 hm).elim id (fun e => absurd (List.mem_singleton.1 e) (by decide)))), g4, e4⟩)
        · (as_aux_lemma =>
          have HNE := Lib.hid hneg
          gi_wp2_with (first | (with_reducible refine G.any_mark _ ?_; (try generalize Array.size (World.heap (G.w _)) = bk2); (try dsimp only [List.set_cons_zero, List.set_cons_succ]); (try clear h'); intro h') | (refine ⟨trivial, ?_⟩; gi_at_call 46; refine (CallsIn.inRound lp (callsIn_wide.2 (CS.out _))).mono ?_; rintro e w' ⟨Aq, cq, Fq, rfl, hsq, hn⟩; obtain ⟨g1', rfl⟩ := G.new_ex _ hn; clear hn; (try clear h'); revert g1'; intro h') | (refine ⟨trivial, ?_⟩; gi_at_call 47; refine (CallsIn.inRound lp (callsIn_wide.2 (CH.out _ _ _ (G.sl h' (by simp) hsq)))).mono ?_; rintro e w' ⟨Al, cl, Fl, rfl, hsl, hn⟩; obtain ⟨g1', rfl⟩ := G.new_ex _ hn; clear hn; (try clear h'); revert g1'; intro h') | (refine ⟨trivial, ?_⟩; gi_at_call 48; refine CallsIn.inRound lp (callsIn_wide.2 ?_); refine cmk _ ?_; (try dsimp only [List.set_cons_zero, List.set_cons_succ]); (try clear h'); intro h'; refine ((CT.out _ _ _ _ (by go_simp) (by go_simp) (G.sl h' (by simp) hF) (G.sl h' (by simp) hsl))).mono ?_; rintro e w' ⟨⟨u, rfl, hu0, hu1, hu2, hu3⟩, hb⟩; obtain ⟨g1', rfl⟩ := G.call_ex _ hb; have hwu : IntKind.i64.wrap (-u) = -u := (by rw [IntKind.wrap_i64]; omega); have HU := Lib.hid (HP.out u hu0 hu1 hu2 hu3); clear hb hu0 hu1 hu2 hu3; (try clear h'); revert g1'; intro h'))
          have HR := HU.out
          rw [if_neg (show ¬ y < 0 by have := HNE.out; omega)] at HR
          refine G.any_mark _ ?_
          (try dsimp only [List.set_cons_zero, List.set_cons_succ])
          clear h'
          intro h'
          obtain ⟨h2, e2⟩ := G.less h' (M' := [(ob, 72, [.int .i64 o0, .int .i64 u, .int .i64 o2]), (db, 65, [.slice A lD c1]), (rb, 23, [.int .i64 0, .int .i64 0, .int .i64 0])]) (by simp)
          obtain ⟨h3, e3⟩ := G.lessI h2 (I' := [blkF bk (.cells [Value.int .i64 a, Value.int .i64 b, Value.int .i64 c].toArray 55 (0, 0)), blkF E1 (.deferred (some [])), F, heapOf w]) (by simp)
          obtain ⟨g4, e4⟩ := G.unbase2 g h3 rfl
          rw [e2, e3]
          exact ⟨(G.keeps2 g h3).from _, trivial, o0, u, o2, (fun hm => HQ.out.1 ((List.mem_append.1 hm).elim id (fun e => absurd (List.mem_singleton.1 e) (by decide)))), (fun _ => by have := HR; rw [← HYA.out] at this; exact this), (fun hm => HQ.out.2.2 ((List.mem_append.1 hm).elim id (fun e => absurd (List.mem_singleton.1 e) (by decide)))), g4, e4⟩)
      · obtain rfl : xi = 2 := by rw [← hxi]; rfl
        have hya : c = y := hy
        have HYA := Lib.hid hya
        clear hy hya hxi
        by_cases hneg : y < 0
        · (as_aux_lemma =>
          have HNE := Lib.hid hneg
          gi_wp2_with (first | (with_reducible refine G.any_mark _ ?_; (try generalize Array.size (World.heap (G.w _)) = bk2); (try dsimp only [List.set_cons_zero, List.set_cons_succ]); (try clear h'); intro h') | (refine ⟨trivial, ?_⟩; gi_at_call 46; refine (CallsIn.inRound lp (callsIn_wide.2 (CS.out _))).mono ?_; rintro e w' ⟨Aq, cq, Fq, rfl, hsq, hn⟩; obtain ⟨g1', rfl⟩ := G.new_ex _ hn; clear hn; (try clear h'); revert g1'; intro h') | (refine ⟨trivial, ?_⟩; gi_at_call 47; refine (CallsIn.inRound lp (callsIn_wide.2 (CH.out _ _ _ (G.sl h' (by simp) hsq)))).mono ?_; rintro e w' ⟨Al, cl, Fl, rfl, hsl, hn⟩; obtain ⟨g1', rfl⟩ := G.new_ex _ hn; clear hn; (try clear h'); revert g1'; intro h') | (refine ⟨trivial, ?_⟩; gi_at_call 48; refine CallsIn.inRound lp (callsIn_wide.2 ?_); refine cmk _ ?_; (try dsimp only [List.set_cons_zero, List.set_cons_succ]); (try clear h'); intro h'; refine ((CT.out _ _ _ _ (by go_simp) (by go_simp) (G.sl h' (by simp) hF) (G.sl h' (by simp) hsl))).mono ?_; rintro e w' ⟨⟨u, rfl, hu0, hu1, hu2, hu3⟩, hb⟩; obtain ⟨g1', rfl⟩ := G.call_ex _ hb; have hwu : IntKind.i64.wrap (-u) = -u := (by rw [IntKind.wrap_i64]; omega); have HU := Lib.hid (HP.out u hu0 hu1 hu2 hu3); clear hb hu0 hu1 hu2 hu3; (try clear h'); revert g1'; intro h'))
          have HR := HU.out
          rw [if_pos HNE.out] at HR
          refine G.any_mark _ ?_
          (try dsimp only [List.set_cons_zero, List.set_cons_succ])
          clear h'
          intro h'
          obtain ⟨h2, e2⟩ := G.less h' (M' := [(ob, 72, [.int .i64 o0, .int .i64 o1, .int .i64 (-u)]), (db, 65, [.slice A lD c1]), (rb, 23, [.int .i64 0, .int .i64 0, .int .i64 0])]) (by simp)
          obtain ⟨h3, e3⟩ := G.lessI h2 (I' := [blkF bk (.cells [Value.int .i64 a, Value.int .i64 b, Value.int .i64 c].toArray 55 (0, 0)), blkF E1 (.deferred (some [])), F, heapOf w]) (by simp)
          obtain ⟨g4, e4⟩ := G.unbase2 g h3 rfl
          rw [e2, e3]
          exact ⟨(G.keeps2 g h3).from _, trivial, o0, o1, (-u), (fun hm => HQ.out.1 ((List.mem_append.1 hm).elim id (fun e => absurd (List.mem_singleton.1 e) (by decide)))), (fun hm => HQ.out.2.1 ((List.mem_append.1 hm).elim id (fun e => absurd (List.mem_singleton.1 e) (by decide)))), (fun _ => by have := HR; rw [← HYA.out] at this; exact this), g4, e4⟩)
        · (as_aux_lemma =>
          have HNE := Lib.hid hneg
          gi_wp2_with (first | (with_reducible refine G.any_mark _ ?_; (try generalize Array.size (World.heap (G.w _)) = bk2); (try dsimp only [List.set_cons_zero, List.set_cons_succ]); (try clear h'); intro h') | (refine ⟨trivial, ?_⟩; gi_at_call 46; refine (CallsIn.inRound lp (callsIn_wide.2 (CS.out _))).mono ?_; rintro e w' ⟨Aq, cq, Fq, rfl, hsq, hn⟩; obtain ⟨g1', rfl⟩ := G.new_ex _ hn; clear hn; (try clear h'); revert g1'; intro h') | (refine ⟨trivial, ?_⟩; gi_at_call 47; refine (CallsIn.inRound lp (callsIn_wide.2 (CH.out _ _ _ (G.sl h' (by simp) hsq)))).mono ?_; rintro e w' ⟨Al, cl, Fl, rfl, hsl, hn⟩; obtain ⟨g1', rfl⟩ := G.new_ex _ hn; clear hn; (try clear h'); revert g1'; intro h') | (refine ⟨trivial, ?_⟩; gi_at_call 48; refine CallsIn.inRound lp (callsIn_wide.2 ?_); refine cmk _ ?_; (try dsimp only [List.set_cons_zero, List.set_cons_succ]); (try clear h'); intro h'; refine ((CT.out _ _ _ _ (by go_simp) (by go_simp) (G.sl h' (by simp) hF) (G.sl h' (by simp) hsl))).mono ?_; rintro e w' ⟨⟨u, rfl, hu0, hu1, hu2, hu3⟩, hb⟩; obtain ⟨g1', rfl⟩ := G.call_ex _ hb; have hwu : IntKind.i64.wrap (-u) = -u := (by rw [IntKind.wrap_i64]; omega); have HU := Lib.hid (HP.out u hu0 hu1 hu2 hu3); clear hb hu0 hu1 hu2 hu3; (try clear h'); revert g1'; intro h'))
          have HR := HU.out
          rw [if_neg (show ¬ y < 0 by have := HNE.out; omega)] at HR
          refine G.any_mark _ ?_
          (try dsimp only [List.set_cons_zero, List.set_cons_succ])
          clear h'
          intro h'
          obtain ⟨h2, e2⟩ := G.less h' (M' := [(ob, 72, [.int .i64 o0, .int .i64 o1, .int .i64 u]), (db, 65, [.slice A lD c1]), (rb, 23, [.int .i64 0, .int .i64 0, .int .i64 0])]) (by simp)
          obtain ⟨h3, e3⟩ := G.lessI h2 (I' := [blkF bk (.cells [Value.int .i64 a, Value.int .i64 b, Value.int .i64 c].toArray 55 (0, 0)), blkF E1 (.deferred (some [])), F, heapOf w]) (by simp)
          obtain ⟨g4, e4⟩ := G.unbase2 g h3 rfl
          rw [e2, e3]
          exact ⟨(G.keeps2 g h3).from _, trivial, o0, o1, u, (fun hm => HQ.out.1 ((List.mem_append.1 hm).elim id (fun e => absurd (List.mem_singleton.1 e) (by decide)))), (fun hm => HQ.out.2.1 ((List.mem_append.1 hm).elim id (fun e => absurd (List.mem_singleton.1 e) (by decide)))), (fun _ => by have := HR; rw [← HYA.out] at this; exact this), g4, e4⟩)
    case done =>
      rintro E2 ys W1 hE2 rfl ⟨o0, o1, o2, q0, q1, q2, g, rfl⟩ hKd2
      have p0 := q0 (by simp)
      have p1 := q1 (by simp)
      have p2 := q2 (by simp)
      obtain ⟨g3, hg3⟩ := g.seeD hKd2 rfl
      rw [hg3]
      gi_wp2_with fail
      refine G.any_mark _ ?_
      (try dsimp only [List.set_cons_zero, List.set_cons_succ])
      clear g3 hg3 g hKd2
      intro g
      have k2 : g.w.heap[E2]? = some (Obj.deferred (some [])) := blkF_sub' g (by simp)
      have k1 : g.w.heap[E1]? = some (Obj.deferred (some [])) := blkF_sub' g (by simp)
      refine ⟨by simp, .inl ⟨_, _, rfl, run_takeDeferred k2, ?_⟩⟩
      have hne2 : E1 ≠ E2 := by omega
      have k1' : (g.w.putObj E2 (.deferred none)).heap[E1]? = some (Obj.deferred (some [])) := (World.putObj_heap_other hne2).trans k1
      refine ⟨by simp, .inl ⟨_, _, rfl, run_takeDeferred k1', ?_⟩⟩
      have gr1 := grownBy_putObj' g.w E2 (.deferred none)
      have gr2 := grownBy_putObj' (g.w.putObj E2 (.deferred none)) E1 (.deferred none)
      have kp : ∀ (o : Nat) (v : Value), g.w.cell? ⟨rb, o, none⟩ = some v → ((g.w.putObj E2 (.deferred none)).putObj E1 (.deferred none)).cell? ⟨rb, o, none⟩ = some v := fun o v h =>
        cell_kept (cell_kept h gr1 (fun r e => by cases e; exact ⟨_, k2, rfl⟩)) gr2 (fun r e => by cases e; exact ⟨_, k1', rfl⟩)
      have c0 := kp 0 (.int .i64 o0) (by simp [go_sem])
      have c1' := kp 1 (.int .i64 o1) (by simp [go_sem])
      have c2' := kp 2 (.int .i64 o2) (by simp [go_sem])
      refine ⟨.tuple #[.agg #[.int .i64 o0, .int .i64 o1, .int .i64 o2], .int .i64 0], by simp [results, Try.f19, go_sem, c0, c1', c2'], ⟨o0, o1, o2, rfl, p0, p1, p2⟩, ?_⟩
      have b1 := g.below.grown gr1 (by have := g.chg.size; omega) (fun k e => by cases e; have := g2.chg.size; omega)
      exact b1.grown gr2 (by have := b1.size; omega) (fun k e => by cases e; exact hsz)
end Go.Proofs.Ytodigegjngnknaa
namespace Go.Proofs.Ytodigegjngnknaa
open Go.RowKit GW NL Go.Shelf
attribute [local go_sem] Oper.semAt_some
set_option maxRecDepth 100000 in
set_option maxHeartbeats 2000000 in
theorem dir_c (X Y Z W a b c : Int) (w : World) (ha : X - X = a) (hb : Y - Y = b) (hc : W - Z = c) (hp : In3 100000000000 X Y Z) (hq : In3 100000000000 X Y W) (hne : (Z == W) = false) (D : Nat) (hD : a.natAbs * a.natAbs + b.natAbs * b.natAbs + c.natAbs * c.natAbs = D) :
    CallsIn Fence.wide 8 Try.prog 19 #[.agg #[.int .i64 X, .int .i64 Y, .int .i64 Z], .agg #[.int .i64 X, .int .i64 Y, .int .i64 W]] w fun e W' => (∃ x y z : Int, e = .returned (.tuple #[.agg #[.int .i64 x, .int .i64 y, .int .i64 z], .int .i64 0]) ∧ PartT D a x ∧ PartT D b y ∧ PartT D c z) ∧ Below w.heap.size w W' := by
  have CN := Lib.hid (fun s w h0 h1 h2 h3 h4 h5 => near2_any s X Y Z X Y W w h0 h1 h2 h3 h4 h5)
  rw [decide_eq_true hp, decide_eq_true hq] at CN
  have CL := Lib.hid (fun w => less_any X Y W X Y Z a b c w ha hb hc (by unfold In3 In at *; rw [IntKind.wrap_i64]; omega) (by unfold In3 In at *; rw [IntKind.wrap_i64]; omega) (by unfold In3 In at *; rw [IntKind.wrap_i64]; omega))
  have bb : ∀ i : Nat, (co a b c i).natAbs < 2 ^ 38 := by
    intro i
    unfold In3 In at *
    have : co a b c i = a ∨ co a b c i = b ∨ co a b c i = c := by
      match i with
      | 0 => exact .inl rfl
      | 1 => exact .inr (.inl rfl)
      | (_ + 2) => exact .inr (.inr rfl)
    omega
  have HBB := Lib.hid bb
  have HD := Lib.hid hD
  clear ha hb hc hp hq bb hD
  suffices hg : ∀ g : G w [] [] [heapOf w], CallsIn Fence.wide 8 Try.prog 19 #[.agg #[.int .i64 X, .int .i64 Y, .int .i64 Z], .agg #[.int .i64 X, .int .i64 Y, .int .i64 W]] g.w fun e W' => (∃ x y z : Int, e = .returned (.tuple #[.agg #[.int .i64 x, .int .i64 y, .int .i64 z], .int .i64 0]) ∧ PartT D a x ∧ PartT D b y ∧ PartT D c z) ∧ Below w.heap.size w W' from hg (G.begin w)
  intro g
  refine callsIn_of_wp_marks Try.func19 rfl trivial ?_ rfl
  simp only [Try.ntmps19, List.size_toArray, List.length_cons, List.length_nil, Nat.reduceAdd, Nat.reduceSub, Array.replicate_succ, Array.replicate_zero, List.push_toArray, List.append_toArray, List.nil_append, List.cons_append]
  gi_wp2_with (first | (with_reducible refine G.any_mark _ ?_; (try generalize Array.size (World.heap (G.w _)) = bk); (try dsimp only [List.set_cons_zero, List.set_cons_succ]); (try clear g); intro g) | (refine ⟨trivial, ?_⟩; gi_at_call 34; refine (callsIn_wide.2 (CN.out _ _ (by go_simp) (by go_simp) (by go_simp) (by go_simp) (by go_simp) (by go_simp))).mono ?_; rintro e w' ⟨rfl, hb⟩; obtain ⟨g1, rfl⟩ := G.call_ex _ hb; clear hb; (try clear g); revert g1; intro g) | (refine ⟨trivial, ?_⟩; gi_at_call 36; refine (callsIn_wide.2 (CL.out _)).mono ?_; rintro e w' ⟨rfl, hb⟩; obtain ⟨g1, rfl⟩ := G.call_ex _ hb; clear hb; (try clear g); revert g1; intro g) | (refine ⟨trivial, ?_⟩; gi_at_call 44; refine (coord_in Fence.wide (8 - 1) trivial rfl _ _ _ _).mono ?_; rintro e w' ⟨rfl, rfl⟩))
  rename_i px qx rb sb hnn vb K hK db
  obtain ⟨g0, hg0⟩ := G.fix g
  rw [hg0]
  clear hg0 g
  obtain ⟨g1, hg1⟩ := G.less g0 (M' := [(db, 65, [.slice none 0 0]), (vb, 55, [.int .i64 a, .int .i64 b, .int .i64 c]), (rb, 23, [.int .i64 0, .int .i64 0, .int .i64 0])]) (by simp)
  rw [hg1]
  clear hg1 g0
  have hbs : g1.w.heap[bk]? = some (.cells [Value.int .i64 a, Value.int .i64 b, Value.int .i64 c].toArray 55 (0, 0)) := blkF_sub' g1 (by simp)
  have hb0 : g1.w.cell? ⟨bk, 0, none⟩ = some (.int .i64 a) := (cell_of_row g1.w bk 0 _ _ _ hbs).trans (by simp)
  have hb1 : g1.w.cell? ⟨bk, 1, none⟩ = some (.int .i64 b) := (cell_of_row g1.w bk 1 _ _ _ hbs).trans (by simp)
  have hb2 : g1.w.cell? ⟨bk, 2, none⟩ = some (.int .i64 c) := (cell_of_row g1.w bk 2 _ _ _ hbs).trans (by simp)
  have hbl : bk < g1.w.heap.size := (Array.getElem?_eq_some_iff.1 hbs).1
  refine wpIn_rangeFunc_ownG rfl (by omega) (gf := 72) (lb := #[.pointer (some ⟨bk, 0, none⟩)]) rfl trivial (enters_of Try.func72 (by kernel_rfl) rfl)
    (coord_stopsK Fence.wide (8 - 1) trivial rfl (by omega) bk a b c (fun _ _ => True) g1.w hbl hb0 hb1 hb2) (fun _ _ => trivial) (fun _ _ _ _ _ _ _ _ => trivial) (Below.refl _ _) (fun _ => rfl)
    (fun pre W => ∃ (A : Option Addr) (c1 : Nat) (F : Frag), F.Sl A c1 (limbs (sumq a b c pre)) ∧ (∀ k o, F k = some o → o.isCells = true) ∧ ∃ g : G w [] [(db, 65, [.slice A (limbs (sumq a b c pre)).length c1]), (vb, 55, [.int .i64 a, .int .i64 b, .int .i64 c]), (rb, 23, [.int .i64 0, .int .i64 0, .int .i64 0])] [F, blkF bk (.cells [Value.int .i64 a, Value.int .i64 b, Value.int .i64 c].toArray 55 (0, 0)), heapOf w], W = g.w)
    (fun c pre W => False)
    (fun s W W' row hs hg hr => by
      obtain ⟨A, c1, F, h1, h2, g, rfl⟩ := hs
      obtain ⟨g', e⟩ := g.grown_ex (B := g1.w.heap.size) g1.chg.size (cells_ok2 g1.chg.size h2) hg hr
      exact ⟨A, c1, F, h1, h2, g', e⟩)
    (fun c s W W' row hs hg hr => hs)
    ⟨none, 0, fun _ => none, by rw [show sumq a b c [] = 0 from rfl, limbs_zero]; exact Frag.Sl.nil _ _, fun k o h => (by cases h), by
      rw [show sumq a b c [] = 0 from rfl, limbs_zero]
      exact ⟨g1.see (fun _ => none) (fun k o h => (by cases h)) (fun k o h => (by cases h)), rfl⟩⟩
    (fun x => { tmps := #[.agg #[.int .i64 X, .int .i64 Y, .int .i64 Z], .agg #[.int .i64 X, .int .i64 Y, .int .i64 W], .pointer (some ⟨px, 0, none⟩), .pointer (some ⟨qx, 0, none⟩), .pointer (some ⟨rb, 0, none⟩), .int .i64 0, .int .i64 (nearE true), .pointer (some ⟨vb, 0, none⟩), .pointer (some ⟨db, 0, none⟩), undef, .int .i64 (co a b c x.val), undef, undef, undef, undef, undef, .agg #[.int .i64 X, .int .i64 Y, .int .i64 Z], .agg #[.int .i64 X, .int .i64 Y, .int .i64 W], .slice (some ⟨sb, 0, none⟩) 2 2, .int .i64 (nearE true), .int .i64 (nearE true), .bool false, undef, undef, .agg #[.int .i64 X, .int .i64 Y, .int .i64 Z], .agg #[.int .i64 X, .int .i64 Y, .int .i64 W], .bool false, undef, .agg #[.int .i64 X, .int .i64 Y, .int .i64 W], .agg #[.int .i64 X, .int .i64 Y, .int .i64 W], .agg #[.int .i64 X, .int .i64 Y, .int .i64 Z], .agg #[.int .i64 X, .int .i64 Y, .int .i64 Z], .agg #[.int .i64 a, .int .i64 b, .int .i64 c], .agg #[.int .i64 a, .int .i64 b, .int .i64 c], .func (.func 72) #[] #[.pointer (some ⟨bk, 0, none⟩)], .int .i64 ((x.val : Nat) : Int), .int .i64 (co a b c x.val), undef, undef, undef, undef, undef, undef, undef, undef, undef, undef, undef, undef, undef, undef, undef, undef, undef, undef, undef, undef, undef, undef, undef, undef, undef, undef, undef, undef, undef, undef, undef, undef, undef, undef, undef, undef], defers := [] }) ?assign ?body ?done ?stop
  case assign =>
    intro l x W K hK
    gi_wp2
    exact hK
  case stop => intro D c pre W _ _ h _; exact h.elim
  case body =>
    rintro lp pre x W1 ⟨A, c1, F, hF, hF2, g, rfl⟩ hlt
    refine G.at_rebase g (fun h' => ?_)
    have hsn := sumq_snoc a b c pre x
    have hsl := sumq_le a b c HBB.out pre
    have hx38 := HBB.out x.val
    have hxx : sq3 a b c x.val < 2 ^ 76 := sq_lt2 hx38 hx38
    obtain ⟨y, hy⟩ : ∃ y, co a b c x.val = y := ⟨_, rfl⟩
    have CS := Lib.hid (fun w => dsq_any (co a b c x.val) _ rfl (by omega) w)
    have hq : (co a b c x.val).natAbs * (co a b c x.val).natAbs = sq3 a b c x.val := rfl
    rw [hq, hy] at CS
    rw [hy]
    obtain ⟨s, hs⟩ : ∃ s, sumq a b c pre = s := ⟨_, rfl⟩
    obtain ⟨q, hq2⟩ : ∃ q, sq3 a b c x.val = q := ⟨_, rfl⟩
    rw [hs] at hF hsl hsn
    rw [hq2] at hxx CS hsn
    have hs80 : s < 2 ^ 80 := by omega
    have HSN := Lib.hid hsn
    obtain ⟨g0, hg0⟩ : ∃ g0 : G g.w [db, vb, rb] [(db, 65, [.slice A (limbs s).length c1]), (vb, 55, [.int .i64 a, .int .i64 b, .int .i64 c]), (rb, 23, [.int .i64 0, .int .i64 0, .int .i64 0])] [F, blkF bk (.cells [Value.int .i64 a, Value.int .i64 b, Value.int .i64 c].toArray 55 (0, 0)), heapOf w], h'.w = g0.w := by subst hs; exact ⟨h', rfl⟩
    rw [hg0]
    clear hg0 h'
    have CA := Lib.hid (fun A1 A2 c1 c2 w h1 h2 => Add_ok A1 A2 c1 c2 s q w h1 h2 (p8192 hs80 (by decide)) (p8192 hxx (by decide)) (p8192 (k := 82) (by omega) (by decide)))
    unfold RLim at CS
    unfold RNE at CA
    dsimp only at CA
    generalize hl1 : (limbs s).length = ls at *
    generalize hl2 : (limbs q).length = lq at *
    generalize hl3 : (limbs (s + q)).length = lsq at *
    have HL3 := Lib.hid hl3
    clear hl1 hl2 hl3 hbs hb0 hb1 hb2 hbl hs hq2 hq hsn hsl hx38 hxx hs80 hy
    gi_wp2_with fail
    refine wpIn_round_held (S := fun _ => True) (by kernel_rfl) (by rintro ⟨a, w, h⟩; exact h) (by kernel_rfl) trivial (fun hHeld => ?_)
    refine wpAnyH_take (i := 1) (v := ?_) rfl (by kernel_rfl) (by kernel_rfl) (by kernel_rfl) (fun _ _ _ h => h) (Or.inl ⟨by rfl, ?_⟩) (by assumption) ?_
    rotate_left 1
    · (intro w hSw; (try dsimp only at hSw); go_simp; (try with_reducible rfl))
    (try simp only [Act.put, List.setIfInBounds_toArray, List.set_cons_zero, List.set_cons_succ])
    refine wpAnyH_ready (rs := [0, 2]) (by kernel_rfl) (by simp) ?_
    refine AllReadyH.cons rfl (fun K hK => ?_) (AllReadyH.cons rfl (fun K hK => ?_) AllReadyH.nil)
    · (as_aux_lemma =>
      go_simp
      refine hK.out _ _ trivial (fun hHeld => ?_)
      clear hK K
      (try simp only [Act.put, List.setIfInBounds_toArray, List.set_cons_zero, List.set_cons_succ])
      refine wpAnyH_ready (rs := [2]) (by kernel_rfl) (by simp) ?_
      refine AllReadyH.cons rfl (fun K hK => ?_) AllReadyH.nil
      go_simp
      refine (CS.out _).mono ?_
      rintro e w' ⟨Aq, cq, Fq, rfl, hsq, hn⟩
      obtain ⟨g1', rfl⟩ := G.new_ex _ hn
      clear hn
      (try clear g0)
      revert g1'
      intro g0
      dsimp only
      refine hK.out _ _ trivial (fun hHeld => ?_)
      clear hK K
      (try simp only [Act.put, List.setIfInBounds_toArray, List.set_cons_zero, List.set_cons_succ])
      refine wpAnyH_ready (rs := [3]) (by kernel_rfl) (by simp) ?_
      refine AllReadyH.cons rfl (fun K hK => ?_) AllReadyH.nil
      go_simp
      refine (CA.out _ _ _ _ _ (G.sl g0 (by simp) hF) (G.sl g0 (by simp) hsq)).mono ?_
      rintro e w' ⟨Ar, cr, Fr, rfl, hsr, hn⟩
      obtain ⟨g1', rfl⟩ := G.new_ex _ hn
      clear hn
      (try clear g0)
      revert g1'
      intro g0
      dsimp only
      refine hK.out _ _ trivial (fun hHeld => ?_)
      clear hK K
      (try simp only [Act.put, List.setIfInBounds_toArray, List.set_cons_zero, List.set_cons_succ])
      refine wpAnyH_take (i := 4) (v := ?_) rfl (by kernel_rfl) (by kernel_rfl) (by kernel_rfl) (fun _ _ _ h => h) (Or.inl ⟨by rfl, ?_⟩) (by assumption) ?_
      rotate_left 1
      · (intro w hSw; (try dsimp only at hSw); go_simp; (try with_reducible rfl))
      (try simp only [Act.put, List.setIfInBounds_toArray, List.set_cons_zero, List.set_cons_succ])
      refine wpAnyH_take (i := 5) (v := ?_) rfl (by kernel_rfl) (by kernel_rfl) (by kernel_rfl) (fun _ _ _ h => h) (Or.inl ⟨by rfl, ?_⟩) (by assumption) ?_
      rotate_left 1
      · (intro w hSw; (try dsimp only at hSw); go_simp; (try with_reducible rfl))
      (try simp only [Act.put, List.setIfInBounds_toArray, List.set_cons_zero, List.set_cons_succ])
      refine wpAnyH_take (i := 6) (v := ?_) rfl (by kernel_rfl) (by kernel_rfl) (by kernel_rfl) (fun _ _ _ h => h) (Or.inl ⟨by rfl, ?_⟩) (by assumption) ?_
      rotate_left 1
      · (intro w hSw; (try dsimp only at hSw); go_simp; (try with_reducible rfl))
      (try simp only [Act.put, List.setIfInBounds_toArray, List.set_cons_zero, List.set_cons_succ])
      refine wpAnyH_ready (rs := [7]) (by kernel_rfl) (by simp) ?_
      refine AllReadyH.cons rfl (fun K hK => ?_) AllReadyH.nil
      go_simp
      refine G.any_mark _ ?_
      (try dsimp only [List.set_cons_zero, List.set_cons_succ])
      clear g0 hHeld
      intro g0
      refine hK.out _ _ trivial (fun hHeld => ?_)
      clear hK K
      (try simp only [Act.put, List.setIfInBounds_toArray, List.set_cons_zero, List.set_cons_succ])
      refine wpAnyH_done (by kernel_rfl) ?_ _
      gi_wp2_with fail
      obtain ⟨g2, hg2⟩ := G.lessI g0 (I' := [Fr, blkF bk (.cells [Value.int .i64 a, Value.int .i64 b, Value.int .i64 c].toArray 55 (0, 0)), heapOf w]) (by simp)
      obtain ⟨g3, hg3⟩ := G.only g2
      obtain ⟨g4, hg4⟩ := G.unbase2 g g3 rfl
      rw [hg2, hg3]
      exact ⟨(G.keeps2 g g3).from _, trivial, Ar, cr, onlyF Fr, by rw [HSN.out]; exact onlyF_sl hsr, fun k o h => (onlyF_sub h).2, by rw [HSN.out, HL3.out]; exact ⟨g4, hg4⟩⟩)
    · (as_aux_lemma =>
      go_simp
      refine (CS.out _).mono ?_
      rintro e w' ⟨Aq, cq, Fq, rfl, hsq, hn⟩
      obtain ⟨g1', rfl⟩ := G.new_ex _ hn
      clear hn
      (try clear g0)
      revert g1'
      intro g0
      dsimp only
      refine hK.out _ _ trivial (fun hHeld => ?_)
      clear hK K
      (try simp only [Act.put, List.setIfInBounds_toArray, List.set_cons_zero, List.set_cons_succ])
      refine wpAnyH_ready (rs := [0]) (by kernel_rfl) (by simp) ?_
      refine AllReadyH.cons rfl (fun K hK => ?_) AllReadyH.nil
      go_simp
      refine hK.out _ _ trivial (fun hHeld => ?_)
      clear hK K
      (try simp only [Act.put, List.setIfInBounds_toArray, List.set_cons_zero, List.set_cons_succ])
      refine wpAnyH_ready (rs := [3]) (by kernel_rfl) (by simp) ?_
      refine AllReadyH.cons rfl (fun K hK => ?_) AllReadyH.nil
      go_simp
      refine (CA.out _ _ _ _ _ (G.sl g0 (by simp) hF) (G.sl g0 (by simp) hsq)).mono ?_
      rintro e w' ⟨Ar, cr, Fr, rfl, hsr, hn⟩
      obtain ⟨g1', rfl⟩ := G.new_ex _ hn
      clear hn
      (try clear g0)
      revert g1'
      intro g0
      dsimp only
      refine hK.out _ _ trivial (fun hHeld => ?_)
      clear hK K
      (try simp only [Act.put, List.setIfInBounds_toArray, List.set_cons_zero, List.set_cons_succ])
      refine wpAnyH_take (i := 4) (v := ?_) rfl (by kernel_rfl) (by kernel_rfl) (by kernel_rfl) (fun _ _ _ h => h) (Or.inl ⟨by rfl, ?_⟩) (by assumption) ?_
      rotate_left 1
      · (intro w hSw; (try dsimp only at hSw); go_simp; (try with_reducible rfl))
      (try simp only [Act.put, List.setIfInBounds_toArray, List.set_cons_zero, List.set_cons_succ])
      refine wpAnyH_take (i := 5) (v := ?_) rfl (by kernel_rfl) (by kernel_rfl) (by kernel_rfl) (fun _ _ _ h => h) (Or.inl ⟨by rfl, ?_⟩) (by assumption) ?_
      rotate_left 1
      · (intro w hSw; (try dsimp only at hSw); go_simp; (try with_reducible rfl))
      (try simp only [Act.put, List.setIfInBounds_toArray, List.set_cons_zero, List.set_cons_succ])
      refine wpAnyH_take (i := 6) (v := ?_) rfl (by kernel_rfl) (by kernel_rfl) (by kernel_rfl) (fun _ _ _ h => h) (Or.inl ⟨by rfl, ?_⟩) (by assumption) ?_
      rotate_left 1
      · (intro w hSw; (try dsimp only at hSw); go_simp; (try with_reducible rfl))
      (try simp only [Act.put, List.setIfInBounds_toArray, List.set_cons_zero, List.set_cons_succ])
      refine wpAnyH_ready (rs := [7]) (by kernel_rfl) (by simp) ?_
      refine AllReadyH.cons rfl (fun K hK => ?_) AllReadyH.nil
      go_simp
      refine G.any_mark _ ?_
      (try dsimp only [List.set_cons_zero, List.set_cons_succ])
      clear g0 hHeld
      intro g0
      refine hK.out _ _ trivial (fun hHeld => ?_)
      clear hK K
      (try simp only [Act.put, List.setIfInBounds_toArray, List.set_cons_zero, List.set_cons_succ])
      refine wpAnyH_done (by kernel_rfl) ?_ _
      gi_wp2_with fail
      obtain ⟨g2, hg2⟩ := G.lessI g0 (I' := [Fr, blkF bk (.cells [Value.int .i64 a, Value.int .i64 b, Value.int .i64 c].toArray 55 (0, 0)), heapOf w]) (by simp)
      obtain ⟨g3, hg3⟩ := G.only g2
      obtain ⟨g4, hg4⟩ := G.unbase2 g g3 rfl
      rw [hg2, hg3]
      exact ⟨(G.keeps2 g g3).from _, trivial, Ar, cr, onlyF Fr, by rw [HSN.out]; exact onlyF_sl hsr, fun k o h => (onlyF_sub h).2, by rw [HSN.out, HL3.out]; exact ⟨g4, hg4⟩⟩)
  case done =>
    rintro E1 ys W1 hE rfl ⟨A, c1, F, hF, hF2, g, rfl⟩ hKd
    obtain ⟨g2, hg2⟩ := g.seeD hKd rfl
    rw [hg2]
    clear hg2 hKd
    rw [sumq_all, HD.out] at hF
    have hsz := Nat.le_trans g1.chg.size hE
    obtain ⟨gD, hgD⟩ : ∃ gD : G w [] [(db, 65, [.slice A (limbs D).length c1]), (vb, 55, [.int .i64 a, .int .i64 b, .int .i64 c]), (rb, 23, [.int .i64 0, .int .i64 0, .int .i64 0])] [blkF E1 (.deferred (some [])), F, heapOf w], g2.w = gD.w := by
      obtain ⟨g3, hg3⟩ := G.lessI g2 (I' := [blkF E1 (.deferred (some [])), F, heapOf w]) (by simp)
      have e : (limbs (sumq a b c (List.finRange 3))).length = (limbs D).length := by rw [sumq_all, HD.out]
      rw [hg3]
      clear hg3
      revert g3
      rw [e]
      intro g3
      exact ⟨g3, rfl⟩
    rw [hgD]
    clear hgD g2 g hbs hb0 hb1 hb2 hbl
    revert gD
    intro g
    rename_i hx1
    obtain ⟨bo, hbo⟩ : ∃ bo : Nat, bk = bo := ⟨_, rfl⟩
    rw [hbo]
    clear hbo
    gi_wp2_with (first | (with_reducible refine G.any_mark _ ?_; (try generalize Array.size (World.heap (G.w _)) = bk); (try dsimp only [List.set_cons_zero, List.set_cons_succ]); (try clear g); intro g) | (refine ⟨trivial, ?_⟩; gi_at_call 44; refine (coord_in Fence.wide (8 - 1) trivial rfl _ _ _ _).mono ?_; rintro e w' ⟨rfl, rfl⟩))
    rename_i ob
    obtain ⟨g0, hg0⟩ := G.fix g
    rw [hg0]
    clear hg0 g
    obtain ⟨g2, hg2⟩ := G.less g0 (M' := [(ob, 72, [.int .i64 0, .int .i64 0, .int .i64 0]), (db, 65, [.slice A (limbs D).length c1]), (rb, 23, [.int .i64 0, .int .i64 0, .int .i64 0])]) (by simp)
    rw [hg2]
    clear hg2 g0
    have hbs : g2.w.heap[bk]? = some (.cells [Value.int .i64 a, Value.int .i64 b, Value.int .i64 c].toArray 55 (0, 0)) := blkF_sub' g2 (by simp)
    have hb0 : g2.w.cell? ⟨bk, 0, none⟩ = some (.int .i64 a) := (cell_of_row g2.w bk 0 _ _ _ hbs).trans (by simp)
    have hb1 : g2.w.cell? ⟨bk, 1, none⟩ = some (.int .i64 b) := (cell_of_row g2.w bk 1 _ _ _ hbs).trans (by simp)
    have hb2 : g2.w.cell? ⟨bk, 2, none⟩ = some (.int .i64 c) := (cell_of_row g2.w bk 2 _ _ _ hbs).trans (by simp)
    have hbl : bk < g2.w.heap.size := (Array.getElem?_eq_some_iff.1 hbs).1
    have hbE : g2.w.heap[E1]? = some (.deferred (some [])) := blkF_sub' g2 (by simp)
    have hEl : E1 < g2.w.heap.size := (Array.getElem?_eq_some_iff.1 hbE).1
    refine wpIn_rangeFunc_ownG rfl (by omega) (gf := 72) (lb := #[.pointer (some ⟨bk, 0, none⟩)]) rfl trivial (enters_of Try.func72 (by kernel_rfl) rfl)
      (coord_stopsK Fence.wide (8 - 1) trivial rfl (by omega) bk a b c (fun _ _ => True) g2.w hbl hb0 hb1 hb2) (fun _ _ => trivial) (fun _ _ _ _ _ _ _ _ => trivial) (Below.refl _ _) (fun _ => rfl)
      (fun pre W => ∃ o0 o1 o2 : Int, ((0 : Fin 3) ∈ pre → PartT D a o0) ∧ ((1 : Fin 3) ∈ pre → PartT D b o1) ∧ ((2 : Fin 3) ∈ pre → PartT D c o2) ∧ ∃ g : G w [] [(ob, 72, [.int .i64 o0, .int .i64 o1, .int .i64 o2]), (db, 65, [.slice A (limbs D).length c1]), (rb, 23, [.int .i64 0, .int .i64 0, .int .i64 0])] [blkF bk (.cells [Value.int .i64 a, Value.int .i64 b, Value.int .i64 c].toArray 55 (0, 0)), blkF E1 (.deferred (some [])), F, heapOf w], W = g.w)
      (fun c pre W => False)
      (fun s W W' row hs hg hr => by
        obtain ⟨o0, o1, o2, q0, q1, q2, g, rfl⟩ := hs
        obtain ⟨g', e⟩ := g.grown_ex (B := g2.w.heap.size) g2.chg.size (cells_ok3 g2.chg.size hEl hF2) hg hr
        exact ⟨o0, o1, o2, q0, q1, q2, g', e⟩)
      (fun c s W W' row hs hg hr => hs)
      ⟨0, 0, 0, (by simp), (by simp), (by simp), g2, rfl⟩
      (fun x => { tmps := #[.agg #[.int .i64 X, .int .i64 Y, .int .i64 Z], .agg #[.int .i64 X, .int .i64 Y, .int .i64 W], .pointer (some ⟨px, 0, none⟩), .pointer (some ⟨qx, 0, none⟩), .pointer (some ⟨rb, 0, none⟩), .int .i64 0, .int .i64 (nearE true), .pointer (some ⟨vb, 0, none⟩), .pointer (some ⟨db, 0, none⟩), undef, undef, .pointer (some ⟨ob, 0, none⟩), .int .i64 ((x.val : Nat) : Int), .int .i64 (co a b c x.val), undef, undef, .agg #[.int .i64 X, .int .i64 Y, .int .i64 Z], .agg #[.int .i64 X, .int .i64 Y, .int .i64 W], .slice (some ⟨sb, 0, none⟩) 2 2, .int .i64 (nearE true), .int .i64 (nearE true), .bool false, undef, undef, .agg #[.int .i64 X, .int .i64 Y, .int .i64 Z], .agg #[.int .i64 X, .int .i64 Y, .int .i64 W], .bool false, undef, .agg #[.int .i64 X, .int .i64 Y, .int .i64 W], .agg #[.int .i64 X, .int .i64 Y, .int .i64 W], .agg #[.int .i64 X, .int .i64 Y, .int .i64 Z], .agg #[.int .i64 X, .int .i64 Y, .int .i64 Z], .agg #[.int .i64 a, .int .i64 b, .int .i64 c], .agg #[.int .i64 a, .int .i64 b, .int .i64 c], .func (.func 72) #[] #[.pointer (some ⟨bo, 0, none⟩)], undef, undef, undef, undef, undef, undef, undef, undef, undef, .agg #[.int .i64 a, .int .i64 b, .int .i64 c], .func (.func 72) #[] #[.pointer (some ⟨bk, 0, none⟩)], .int .i64 ((x.val : Nat) : Int), .int .i64 (co a b c x.val), undef, undef, undef, undef, undef, undef, undef, undef, undef, undef, undef, undef, undef, undef, undef, undef, undef, undef, undef, undef, undef, undef, undef, undef, undef], defers := [] }) ?assign ?body ?done ?stop
    case assign =>
      intro l x W K hK
      gi_wp2
      exact hK
    case stop => intro D c pre W _ _ h _; exact h.elim
    case body =>
      rintro lp pre x W1 ⟨o0, o1, o2, q0, q1, q2, g, rfl⟩ hlt
      refine G.at_rebase g (fun h' => ?_)
      clear hbs hb0 hb1 hb2 hbl hbE CN CL hlt
      obtain ⟨y, hy⟩ : ∃ y, co a b c x.val = y := ⟨_, rfl⟩
      obtain ⟨n, hn⟩ : ∃ n, y.natAbs = n := ⟨_, rfl⟩
      have n38 : n < 2 ^ 38 := by rw [← hn, ← hy]; exact HBB.out x.val
      have n62 : n < 2 ^ 62 := by omega
      have nn : n * n < 2 ^ 76 := sq_lt2 n38 n38
      have nL : n * n * 4611686018427387904 < 2 ^ 140 := sq_lt2 nn (show 4611686018427387904 < 2 ^ 64 by decide)
      have CS := Lib.hid (fun w => dsq_any y n hn n62 w)
      have CH := Lib.hid (fun A c w h => Shift_up A c (n * n) 62 w h (p8192 nn (by decide)) (by decide))
      have eo : outN 0 (n * n * 2 ^ 62) = (n * n * 4611686018427387904, 0) := by
        unfold outN
        rw [show (2 : Nat) ^ 62 = 4611686018427387904 by decide]
        rw [if_neg (by decide), if_pos (p8192 nL (by decide))]
      rw [eo] at CH
      obtain ⟨L, hL⟩ : ∃ L, n * n * 4611686018427387904 = L := ⟨_, rfl⟩
      rw [hL] at CH nL
      have dD : D < 2 ^ 200 := by
        have h1 := sumq_le a b c HBB.out (List.finRange 3)
        rw [sumq_all, HD.out] at h1
        have : (List.finRange 3).length = 3 := by simp
        rw [this] at h1
        omega
      have CT := Lib.hid (fun b2 A2 c2 w h1 h2 h3 h4 => last_any db b2 A A2 c1 c2 D L w h1 h2 h3 h4 dD (Nat.lt_of_lt_of_le nL (Nat.pow_le_pow_right (by decide) (by decide))))
      have HP : Hid (∀ u : Int, 0 ≤ u → u ≤ 1073741824 → (u = 0 ∨ Yes D L u) → (u = 1073741824 ∨ ¬ Yes D L (u + 1)) → PartT D y (if y < 0 then -u else u)) :=
        Lib.hid (fun u h0 h1 h2 h3 => ⟨u, rfl, h0, h1, by rw [hn, hL]; exact h2, by rw [hn, hL]; exact h3⟩)
      unfold RLim at CS
      unfold RNE at CH
      dsimp only at CH
      generalize hl1 : (limbs (n * n)).length = lq at *
      generalize hl2 : (limbs L).length = lL at *
      generalize hl3 : (limbs D).length = lD at *
      clear hl1 hl2 hl3 n38 n62 nn nL eo hL dD hn
      obtain ⟨xi, hxi⟩ : ∃ xi : Int, ((x.val : Nat) : Int) = xi := ⟨_, rfl⟩
      rw [hy, hxi]
      have hx3 : x = 0 ∨ x = 1 ∨ x = 2 := by
        obtain ⟨i, hi⟩ := x
        have : i = 0 ∨ i = 1 ∨ i = 2 := by omega
        rcases this with rfl | rfl | rfl
        · exact .inl rfl
        · exact .inr (.inl rfl)
        · exact .inr (.inr rfl)
      have HQ := Lib.hid (And.intro q0 (And.intro q1 q2))
      clear q0 q1 q2
      rcases hx3 with rfl | rfl | rfl
      · obtain rfl : xi = 0 := by rw [← hxi]; rfl
        have hya : a = y := hy
        have HYA := Lib.hid hya
        clear hy hya hxi
        by_cases hneg : y < 0
        · (as_aux_lemma =>
          have HNE := Lib.hid hneg
          gi_wp2_with (first | (with_reducible refine G.any_mark _ ?_; (try generalize Array.size (World.heap (G.w _)) = bk2); (try dsimp only [List.set_cons_zero, List.set_cons_succ]); (try clear h'); intro h') | (refine ⟨trivial, ?_⟩; gi_at_call 46; refine (CallsIn.inRound lp (callsIn_wide.2 (CS.out _))).mono ?_; rintro e w' ⟨Aq, cq, Fq, rfl, hsq, hn⟩; obtain ⟨g1', rfl⟩ := G.new_ex _ hn; clear hn; (try clear h'); revert g1'; intro h') | (refine ⟨trivial, ?_⟩; gi_at_call 47; refine (CallsIn.inRound lp (callsIn_wide.2 (CH.out _ _ _ (G.sl h' (by simp) hsq)))).mono ?_; rintro e w' ⟨Al, cl, Fl, rfl, hsl, hn⟩; obtain ⟨g1', rfl⟩ := G.new_ex _ hn; clear hn; (try clear h'); revert g1'; intro h') | (refine ⟨trivial, ?_⟩; gi_at_call 48; refine CallsIn.inRound lp (callsIn_wide.2 ?_); refine cmk _ ?_; (try dsimp only [List.set_cons_zero, List.set_cons_succ]); (try clear h'); intro h'; refine ((CT.out _ _ _ _ (by go_simp) (by go_simp) (G.sl h' (by simp) hF) (G.sl h' (by simp) hsl))).mono ?_; rintro e w' ⟨⟨u, rfl, hu0, hu1, hu2, hu3⟩, hb⟩; obtain ⟨g1', rfl⟩ := G.call_ex _ hb; have hwu : IntKind.i64.wrap (-u) = -u := (by rw [IntKind.wrap_i64]; omega); have HU := Lib.hid (HP.out u hu0 hu1 hu2 hu3); clear hb hu0 hu1 hu2 hu3; (try clear h'); revert g1'; intro h'))
          have HR := HU.out
          rw [if_pos HNE.out] at HR
          refine G.any_mark _ ?_
          (try dsimp only [List.set_cons_zero, List.set_cons_succ])
          clear h'
          intro h'
          obtain ⟨h2, e2⟩ := G.less h' (M' := [(ob, 72, [.int .i64 (-u), .int .i64 o1, .int .i64 o2]), (db, 65, [.slice A lD c1]), (rb, 23, [.int .i64 0, .int .i64 0, .int .i64 0])]) (by simp)
          obtain ⟨h3, e3⟩ := G.lessI h2 (I' := [blkF bk (.cells [Value.int .i64 a, Value.int .i64 b, Value.int .i64 c].toArray 55 (0, 0)), blkF E1 (.deferred (some [])), F, heapOf w]) (by simp)
          obtain ⟨g4, e4⟩ := G.unbase2 g h3 rfl
          rw [e2, e3]
          exact ⟨(G.keeps2 g h3).from _, trivial, (-u), o1, o2, (fun _ => by have := HR; rw [← HYA.out] at this; exact this), (fun hm => HQ.out.2.1 ((List.mem_append.1 hm).elim id (fun e => absurd (List.mem_singleton.1 e) (by decide)))), (fun hm => HQ.out.2.2 ((List.mem_append.1 hm).elim id (fun e => absurd (List.mem_singleton.1 e) (by decide)))), g4, e4⟩)
        · (as_aux_lemma =>
          have HNE := Lib.hid hneg
          gi_wp2_with (first | (with_reducible refine G.any_mark _ ?_; (try generalize Array.size (World.heap (G.w _)) = bk2); (try dsimp only [List.set_cons_zero, List.set_cons_succ]); (try clear h'); intro h') | (refine ⟨trivial, ?_⟩; gi_at_call 46; refine (CallsIn.inRound lp (callsIn_wide.2 (CS.out _))).mono ?_; rintro e w' ⟨Aq, cq, Fq, rfl, hsq, hn⟩; obtain ⟨g1', rfl⟩ := G.new_ex _ hn; clear hn; (try clear h'); revert g1'; intro h') | (refine ⟨trivial, ?_⟩; gi_at_call 47; refine (CallsIn.inRound lp (callsIn_wide.2 (CH.out _ _ _ (G.sl h' (by simp) hsq)))).mono ?_; rintro e w' ⟨Al, cl, Fl, rfl, hsl, hn⟩; obtain ⟨g1', rfl⟩ := G.new_ex _ hn; clear hn; (try clear h'); revert g1'; intro h') | (refine ⟨trivial, ?_⟩; gi_at_call 48; refine CallsIn.inRound lp (callsIn_wide.2 ?_); refine cmk _ ?_; (try dsimp only [List.set_cons_zero, List.set_cons_succ]); (try clear h'); intro h'; refine ((CT.out _ _ _ _ (by go_simp) (by go_simp) (G.sl h' (by simp) hF) (G.sl h' (by simp) hsl))).mono ?_; rintro e w' ⟨⟨u, rfl, hu0, hu1, hu2, hu3⟩, hb⟩; obtain ⟨g1', rfl⟩ := G.call_ex _ hb; have hwu : IntKind.i64.wrap (-u) = -u := (by rw [IntKind.wrap_i64]; omega); have HU := Lib.hid (HP.out u hu0 hu1 hu2 hu3); clear hb hu0 hu1 hu2 hu3; (try clear h'); revert g1'; intro h'))
          have HR := HU.out
          rw [if_neg (show ¬ y < 0 by have := HNE.out; omega)] at HR
          refine G.any_mark _ ?_
          (try dsimp only [List.set_cons_zero, List.set_cons_succ])
          clear h'
          intro h'
          obtain ⟨h2, e2⟩ := G.less h' (M' := [(ob, 72, [.int .i64 u, .int .i64 o1, .int .i64 o2]), (db, 65, [.slice A lD c1]), (rb, 23, [.int .i64 0, .int .i64 0, .int .i64 0])]) (by simp)
          obtain ⟨h3, e3⟩ := G.lessI h2 (I' := [blkF bk (.cells [Value.int .i64 a, Value.int .i64 b, Value.int .i64 c].toArray 55 (0, 0)), blkF E1 (.deferred (some [])), F, heapOf w]) (by simp)
          obtain ⟨g4, e4⟩ := G.unbase2 g h3 rfl
          rw [e2, e3]
          exact ⟨(G.keeps2 g h3).from _, trivial, u, o1, o2, (fun _ => by have := HR; rw [← HYA.out] at this; exact this), (fun hm => HQ.out.2.1 ((List.mem_append.1 hm).elim id (fun e => absurd (List.mem_singleton.1 e) (by decide)))), (fun hm => HQ.out.2.2 ((List.mem_append.1 hm).elim id (fun e => absurd (List.mem_singleton.1 e) (by decide)))), g4, e4⟩)
      · obtain rfl : xi = 1 := by rw [← hxi]; rfl
        have hya : b = y := hy
        have HYA := Lib.hid hya
        clear hy hya hxi
        by_cases hneg : y < 0
        · (as_aux_lemma =>
          have HNE := Lib.hid hneg
          gi_wp2_with (first | (with_reducible refine G.any_mark _ ?_; (try generalize Array.size (World.heap (G.w _)) = bk2); (try dsimp only [List.set_cons_zero, List.set_cons_succ]); (try clear h'); intro h') | (refine ⟨trivial, ?_⟩; gi_at_call 46; refine (CallsIn.inRound lp (callsIn_wide.2 (CS.out _))).mono ?_; rintro e w' ⟨Aq, cq, Fq, rfl, hsq, hn⟩; obtain ⟨g1', rfl⟩ := G.new_ex _ hn; clear hn; (try clear h'); revert g1'; intro h') | (refine ⟨trivial, ?_⟩; gi_at_call 47; refine (CallsIn.inRound lp (callsIn_wide.2 (CH.out _ _ _ (G.sl h' (by simp) hsq)))).mono ?_; rintro e w' ⟨Al, cl, Fl, rfl, hsl, hn⟩; obtain ⟨g1', rfl⟩ := G.new_ex _ hn; clear hn; (try clear h'); revert g1'; intro h') | (refine ⟨trivial, ?_⟩; gi_at_call 48; refine CallsIn.inRound lp (callsIn_wide.2 ?_); refine cmk _ ?_; (try dsimp only [List.set_cons_zero, List.set_cons_succ]); (try clear h'); intro h'; refine ((CT.out _ _ _ _ (by go_simp) (by go_simp) (G.sl h' (by simp) hF) (G.sl h' (by simp) hsl))).mono ?_; rintro e w' ⟨⟨u, rfl, hu0, hu1, hu2, hu3⟩, hb⟩; obtain ⟨g1', rfl⟩ := G.call_ex _ hb; have hwu : IntKind.i64.wrap (-u) = -u := (by rw [IntKind.wrap_i64]; omega); have HU := Lib.hid (HP.out u hu0 hu1 hu2 hu3); clear hb hu0 hu1 hu2 hu3; (try clear h'); revert g1'; intro h'))
          have HR := HU.out
          rw [if_pos HNE.out] at HR
          refine G.any_mark _ ?_
          (try dsimp only [List.set_cons_zero, List.set_cons_succ])
          clear h'
          intro h'
          obtain ⟨h2, e2⟩ := G.less h' (M' := [(ob, 72, [.int .i64 o0, .int .i64 (-u), .int .i64 o2]), (db, 65, [.slice A lD c1]), (rb, 23, [.int .i64 0, .int .i64 0, .int .i64 0])]) (by simp)
          obtain ⟨h3, e3⟩ := G.lessI h2 (I' := [blkF bk (.cells [Value.int .i64 a, Value.int .i64 b, Value.int .i64 c].toArray 55 (0, 0)), blkF E1 (.deferred (some [])), F, heapOf w]) (by simp)
          obtain ⟨g4, e4⟩ := G.unbase2 g h3 rfl
          rw [e2, e3]
          exact ⟨(G.keeps2 g h3).from _, trivial, o0, (-u), o2, (fun hm => HQ.out.1 ((List.mem_append.1 hm).elim id (fun e => absurd (List.mem_singleton.1 e) (by decide)))), (fun _ => by have := HR; rw [← HYA.out] at this; exact this), (fun hm => HQ.out.2.2 ((List.mem_append.1 hm).elim id (fun e => absurd (List.mem_singleton.1 e) (by decide)))), g4, e4⟩)
        · (as_aux_lemma =>
          have HNE := Lib.hid hneg
          gi_wp2_with (first | (with_reducible refine G.any_mark _ ?_; (try generalize Array.size (World.heap (G.w _)) = bk2); (try dsimp only [List.set_cons_zero, List.set_cons_succ]); (try clear h'); intro h') | (refine ⟨trivial, ?_⟩; gi_at_call 46; refine (CallsIn.inRound lp (callsIn_wide.2 (CS.out _))).mono ?_; rintro e w' ⟨Aq, cq, Fq, rfl, hsq, hn⟩; obtain ⟨g1', rfl⟩ := G.new_ex _ hn; clear hn; (try clear h'); revert g1'; intro h') | (refine ⟨trivial, ?_⟩; gi_at_call 47; refine (CallsIn.inRound lp (callsIn_wide.2 (CH.out _ _ _ (G.sl h' (by simp) hsq)))).mono ?_; rintro e w' ⟨Al, cl, Fl, rfl, hsl, hn⟩; obtain ⟨g1', rfl⟩ := G.new_ex _ hn; clear hn; (try clear h'); revert g1'; intro h') | (refine ⟨trivial, ?_⟩; gi_at_call 48; refine CallsIn.inRound lp (callsIn_wide.2 ?_); refine cmk _ ?_; (try dsimp only [List.set_cons_zero, List.set_cons_succ]); (try clear h'); intro h'; refine ((CT.out _ _ _ _ (by go_simp) (by go_simp) (G.sl h' (by simp) hF) (G.sl h' (by simp) hsl))).mono ?_; rintro e w' ⟨⟨u, rfl, hu0, hu1, hu2, hu3⟩, hb⟩; obtain ⟨g1', rfl⟩ := G.call_ex _ hb; have hwu : IntKind.i64.wrap (-u) = -u := (by rw [IntKind.wrap_i64]; omega); have HU := Lib.hid (HP.out u hu0 hu1 hu2 hu3); clear hb hu0 hu1 hu2 hu3; (try clear h'); revert g1'; intro h'))
          have HR := HU.out
          rw [if_neg (show ¬ y < 0 by have := HNE.out; omega)] at HR
          refine G.any_mark _ ?_
          (try dsimp only [List.set_cons_zero, List.set_cons_succ])
          clear h'
          intro h'
          obtain ⟨h2, e2⟩ := G.less h' (M' := [(ob, 72, [.int .i64 o0, .int .i64 u, .int .i64 o2]), (db, 65, [.slice A lD c1]), (rb, 23, [.int .i64 0, .int .i64 0, .int .i64 0])]) (by simp)
          obtain ⟨h3, e3⟩ := G.lessI h2 (I' := [blkF bk (.cells [Value.int .i64 a, Value.int .i64 b, Value.int .i64 c].toArray 55 (0, 0)), blkF E1 (.deferred (some [])), F, heapOf w]) (by simp)
          obtain ⟨g4, e4⟩ := G.unbase2 g h3 rfl
          rw [e2, e3]
          exact ⟨(G.keeps2 g h3).from _, trivial, o0, u, o2, (fun hm => HQ.out.1 ((List.mem_append.1 hm).elim id (fun e => absurd (List.mem_singleton.1 e) (by decide)))), (fun _ => by have := HR; rw [← HYA.out] at this; exact this), (fun hm => HQ.out.2.2 ((List.mem_append.1 hm).elim id (fun e => absurd (List.mem_singleton.1 e) (by decide)))), g4, e4⟩)
      · obtain rfl : xi = 2 := by rw [← hxi]; rfl
        have hya : c = y := hy
        have HYA := Lib.hid hya
        clear hy hya hxi
        by_cases hneg : y < 0
        · (as_aux_lemma =>
          have HNE := Lib.hid hneg
          gi_wp2_with (first | (with_reducible refine G.any_mark _ ?_; (try generalize Array.size (World.heap (G.w _)) = bk2); (try dsimp only [List.set_cons_zero, List.set_cons_succ]); (try clear h'); intro h') | (refine ⟨trivial, ?_⟩; gi_at_call 46; refine (CallsIn.inRound lp (callsIn_wide.2 (CS.out _))).mono ?_; rintro e w' ⟨Aq, cq, Fq, rfl, hsq, hn⟩; obtain ⟨g1', rfl⟩ := G.new_ex _ hn; clear hn; (try clear h'); revert g1'; intro h') | (refine ⟨trivial, ?_⟩; gi_at_call 47; refine (CallsIn.inRound lp (callsIn_wide.2 (CH.out _ _ _ (G.sl h' (by simp) hsq)))).mono ?_; rintro e w' ⟨Al, cl, Fl, rfl, hsl, hn⟩; obtain ⟨g1', rfl⟩ := G.new_ex _ hn; clear hn; (try clear h'); revert g1'; intro h') | (refine ⟨trivial, ?_⟩; gi_at_call 48; refine CallsIn.inRound lp (callsIn_wide.2 ?_); refine cmk _ ?_; (try dsimp only [List.set_cons_zero, List.set_cons_succ]); (try clear h'); intro h'; refine ((CT.out _ _ _ _ (by go_simp) (by go_simp) (G.sl h' (by simp) hF) (G.sl h' (by simp) hsl))).mono ?_; rintro e w' ⟨⟨u, rfl, hu0, hu1, hu2, hu3⟩, hb⟩; obtain ⟨g1', rfl⟩ := G.call_ex _ hb; have hwu : IntKind.i64.wrap (-u) = -u := (by rw [IntKind.wrap_i64]; omega); have HU := Lib.hid (HP.out u hu0 hu1 hu2 hu3); clear hb hu0 hu1 hu2 hu3; (try clear h'); revert g1'; intro h'))
          have HR := HU.out
          rw [if_pos HNE.out] at HR
          refine G.any_mark _ ?_
          (try dsimp only [List.set_cons_zero, List.set_cons_succ])
          clear h'
          intro h'
          obtain ⟨h2, e2⟩ := G.less h' (M' := [(ob, 72, [.int .i64 o0, .int .i64 o1, .int .i64 (-u)]), (db, 65, [.slice A lD c1]), (rb, 23, [.int .i64 0, .int .i64 0, .int .i64 0])]) (by simp)
          obtain ⟨h3, e3⟩ := G.lessI h2 (I' := [blkF bk (.cells [Value.int .i64 a, Value.int .i64 b, Value.int .i64 c].toArray 55 (0, 0)), blkF E1 (.deferred (some [])), F, heapOf w]) (by simp)
          obtain ⟨g4, e4⟩ := G.unbase2 g h3 rfl
          rw [e2, e3]
          exact ⟨(G.keeps2 g h3).from _, trivial, o0, o1, (-u), (fun hm => HQ.out.1 ((List.mem_append.1 hm).elim id (fun e => absurd (List.mem_singleton.1 e) (by decide)))), (fun hm => HQ.out.2.1 ((List.mem_append.1 hm).elim id (fun e => absurd (List.mem_singleton.1 e) (by decide)))), (fun _ => by have := HR; rw [← HYA.out] at this; exact this), g4, e4⟩)
        · (as_aux_lemma =>
          have HNE := Lib.hid hneg
          gi_wp2_with (first | (with_reducible refine G.any_mark _ ?_; (try generalize Array.size (World.heap (G.w _)) = bk2); (try dsimp only [List.set_cons_zero, List.set_cons_succ]); (try clear h'); intro h') | (refine ⟨trivial, ?_⟩; gi_at_call 46; refine (CallsIn.inRound lp (callsIn_wide.2 (CS.out _))).mono ?_; rintro e w' ⟨Aq, cq, Fq, rfl, hsq, hn⟩; obtain ⟨g1', rfl⟩ := G.new_ex _ hn; clear hn; (try clear h'); revert g1'; intro h') | (refine ⟨trivial, ?_⟩; gi_at_call 47; refine (CallsIn.inRound lp (callsIn_wide.2 (CH.out _ _ _ (G.sl h' (by simp) hsq)))).mono ?_; rintro e w' ⟨Al, cl, Fl, rfl, hsl, hn⟩; obtain ⟨g1', rfl⟩ := G.new_ex _ hn; clear hn; (try clear h'); revert g1'; intro h') | (refine ⟨trivial, ?_⟩; gi_at_call 48; refine CallsIn.inRound lp (callsIn_wide.2 ?_); refine cmk _ ?_; (try dsimp only [List.set_cons_zero, List.set_cons_succ]); (try clear h'); intro h'; refine ((CT.out _ _ _ _ (by go_simp) (by go_simp) (G.sl h' (by simp) hF) (G.sl h' (by simp) hsl))).mono ?_; rintro e w' ⟨⟨u, rfl, hu0, hu1, hu2, hu3⟩, hb⟩; obtain ⟨g1', rfl⟩ := G.call_ex _ hb; have hwu : IntKind.i64.wrap (-u) = -u := (by rw [IntKind.wrap_i64]; omega); have HU := Lib.hid (HP.out u hu0 hu1 hu2 hu3); clear hb hu0 hu1 hu2 hu3; (try clear h'); revert g1'; intro h'))
          have HR := HU.out
          rw [if_neg (show ¬ y < 0 by have := HNE.out; omega)] at HR
          refine G.any_mark _ ?_
          (try dsimp only [List.set_cons_zero, List.set_cons_succ])
          clear h'
          intro h'
          obtain ⟨h2, e2⟩ := G.less h' (M' := [(ob, 72, [.int .i64 o0, .int .i64 o1, .int .i64 u]), (db, 65, [.slice A lD c1]), (rb, 23, [.int .i64 0, .int .i64 0, .int .i64 0])]) (by simp)
          obtain ⟨h3, e3⟩ := G.lessI h2 (I' := [blkF bk (.cells [Value.int .i64 a, Value.int .i64 b, Value.int .i64 c].toArray 55 (0, 0)), blkF E1 (.deferred (some [])), F, heapOf w]) (by simp)
          obtain ⟨g4, e4⟩ := G.unbase2 g h3 rfl
          rw [e2, e3]
          exact ⟨(G.keeps2 g h3).from _, trivial, o0, o1, u, (fun hm => HQ.out.1 ((List.mem_append.1 hm).elim id (fun e => absurd (List.mem_singleton.1 e) (by decide)))), (fun hm => HQ.out.2.1 ((List.mem_append.1 hm).elim id (fun e => absurd (List.mem_singleton.1 e) (by decide)))), (fun _ => by have := HR; rw [← HYA.out] at this; exact this), g4, e4⟩)
    case done =>
      rintro E2 ys W1 hE2 rfl ⟨o0, o1, o2, q0, q1, q2, g, rfl⟩ hKd2
      have p0 := q0 (by simp)
      have p1 := q1 (by simp)
      have p2 := q2 (by simp)
      obtain ⟨g3, hg3⟩ := g.seeD hKd2 rfl
      rw [hg3]
      gi_wp2_with fail
      refine G.any_mark _ ?_
      (try dsimp only [List.set_cons_zero, List.set_cons_succ])
      clear g3 hg3 g hKd2
      intro g
      have k2 : g.w.heap[E2]? = some (Obj.deferred (some [])) := blkF_sub' g (by simp)
      have k1 : g.w.heap[E1]? = some (Obj.deferred (some [])) := blkF_sub' g (by simp)
      refine ⟨by simp, .inl ⟨_, _, rfl, run_takeDeferred k2, ?_⟩⟩
      have hne2 : E1 ≠ E2 := by omega
      have k1' : (g.w.putObj E2 (.deferred none)).heap[E1]? = some (Obj.deferred (some [])) := (World.putObj_heap_other hne2).trans k1
      refine ⟨by simp, .inl ⟨_, _, rfl, run_takeDeferred k1', ?_⟩⟩
      have gr1 := grownBy_putObj' g.w E2 (.deferred none)
      have gr2 := grownBy_putObj' (g.w.putObj E2 (.deferred none)) E1 (.deferred none)
      have kp : ∀ (o : Nat) (v : Value), g.w.cell? ⟨rb, o, none⟩ = some v → ((g.w.putObj E2 (.deferred none)).putObj E1 (.deferred none)).cell? ⟨rb, o, none⟩ = some v := fun o v h =>
        cell_kept (cell_kept h gr1 (fun r e => by cases e; exact ⟨_, k2, rfl⟩)) gr2 (fun r e => by cases e; exact ⟨_, k1', rfl⟩)
      have c0 := kp 0 (.int .i64 o0) (by simp [go_sem])
      have c1' := kp 1 (.int .i64 o1) (by simp [go_sem])
      have c2' := kp 2 (.int .i64 o2) (by simp [go_sem])
      refine ⟨.tuple #[.agg #[.int .i64 o0, .int .i64 o1, .int .i64 o2], .int .i64 0], by simp [results, Try.f19, go_sem, c0, c1', c2'], ⟨o0, o1, o2, rfl, p0, p1, p2⟩, ?_⟩
      have b1 := g.below.grown gr1 (by have := g.chg.size; omega) (fun k e => by cases e; have := g2.chg.size; omega)
      exact b1.grown gr2 (by have := b1.size; omega) (fun k e => by cases e; exact hsz)
end Go.Proofs.Ytodigegjngnknaa
namespace Go.Proofs.Ytodigegjngnknaa
open Go.RowKit GW NL
theorem rcheck_any (A : Option Addr) (c : Nat) (l : List Nat) (w : World) (h : SlW w A c l) :
    Calls Try.prog 93 #[.slice A l.length c] w fun e w' => e = .returned (.int .i64 (chk l)) ∧ Below w.heap.size w w' := by
  have hm := h.len
  have hmm := h.max
  have hc := h.cap
  unfold chk
  by_cases h1 : 256 < l.length
  · rw [if_pos h1]
    generalize l.length = n at *
    go_enter Try.func93, Try.ntmps93
    go_wp2_with fail
    go_ret
    exact ⟨rfl, Below.refl _ _⟩
  · rw [if_neg h1]
    by_cases h0 : 0 < l.length
    · obtain ⟨b, o, rfl, hcell⟩ := limW_cell h.lim (by omega)
      have e1 := hcell (l.length - 1) (by omega)
      clear hcell h
      generalize l.getD (l.length - 1) 0 = x at e1 ⊢
      generalize l.length = m at *
      have h0' : (0 : Int) < (m : Int) := by omega
      by_cases hx : x = 0
      · rw [if_pos ⟨by omega, hx⟩]
        have hx1 : (((x : Nat) : Int) == 0) = true := by simp [hx]
        clear hx
        generalize ((x : Nat) : Int) = v at *
        go_enter Try.func93, Try.ntmps93
        go_wp2_with fail
        go_ret
        exact ⟨rfl, Below.refl _ _⟩
      · rw [if_neg (by omega)]
        have hx1 : (((x : Nat) : Int) == 0) = false := by simp [hx]
        clear hx
        generalize ((x : Nat) : Int) = v at *
        go_enter Try.func93, Try.ntmps93
        go_wp2_with fail
        go_ret
        exact ⟨rfl, Below.refl _ _⟩
    · rw [if_neg (by omega)]
      have hl : l.length = 0 := by omega
      rw [hl]
      go_enter Try.func93, Try.ntmps93
      go_wp2_with fail
      go_ret
      exact ⟨rfl, Below.refl _ _⟩
/-- trim: the limbs without zeros at the end; the slice keeps its address -/
theorem rtrim_any (A : Option Addr) (c : Nat) (l : List Nat) (w : World) (h : SlW w A c l) :
    Calls Try.prog 84 #[.slice A l.length c] w fun e w' => e = .returned (.slice A (limbs (val l)).length c) ∧ Below w.heap.size w w' := by
  have hm := h.len
  have hmm := h.max
  have hc := h.cap
  have hk := h.ok
  go_enter Try.func84, Try.ntmps84
  go_wp2_with fail
  go_loopw [0] (fun v wr => ∃ k : Nat, k ≤ l.length ∧ v = .slice A k c ∧ val (l.take k) = val l ∧ Below w.heap.size w wr) (fun v _ => match v with | .slice _ k _ => k | _ => 0)
  case atStart => exact ⟨l.length, Nat.le_refl _, rfl, by rw [List.take_length], Below.refl _ _⟩
  case round =>
    obtain ⟨k, hk1, rfl, hv, hb⟩ := hrel
    have HV := Lib.hid hv
    clear hv
    by_cases h0 : 0 < k
    · obtain ⟨b, o, rfl, hcell⟩ := limW_cell h.lim (by omega)
      have e1 := (World.cell?_of_block (hb.block _ (World.block_lt_of_cell? w _ (hcell (k - 1) (by omega))))).trans (hcell (k - 1) (by omega))
      clear hcell h
      have hn : (limbs (val l)).length ≤ k := by
        rw [← HV.out]
        have := limbs_len_le_of_ok (hk.take k)
        rw [List.length_take] at this
        omega
      have h0' : (0 : Int) < (k : Int) := by omega
      by_cases hx : l.getD (k - 1) 0 = 0
      · have hv' : val (l.take (k - 1)) = val l := by
          rw [← HV.out]
          have := val_take_getD l (k - 1)
          rw [show k - 1 + 1 = k by omega, hx] at this
          omega
        have HV' := Lib.hid hv'
        clear hv'
        have hx1 : (((l.getD (k - 1) 0 : Nat) : Int) == 0) = true := by simp only [hx]; rfl
        clear hx
        generalize ((l.getD (k - 1) 0 : Nat) : Int) = v at *
        go_wp2_with fail
        refine ⟨⟨k - 1, by omega, ?_, HV'.out, hb⟩, ?_⟩
        · rfl
        · dsimp only; omega
      · have hn' : (limbs (val l)).length = k := by
          have hl : (l.take k).length = k := by rw [List.length_take]; omega
          have t : Trim (l.take k) := by
            intro j hj
            rw [hl] at hj
            rw [getD_take (by omega), show j = k - 1 by omega]
            exact hx
          rw [← HV.out, limbs_val (hk.take k) t, hl]
        have HN := Lib.hid hn'
        clear hn'
        have hx1 : (((l.getD (k - 1) 0 : Nat) : Int) == 0) = false := by simp only [beq_eq_false_iff_ne, ne_eq]; omega
        clear hx
        generalize ((l.getD (k - 1) 0 : Nat) : Int) = v at *
        go_wp2_with fail
        go_ret
        exact ⟨ret_slice HN.out.symm, hb⟩
    · obtain rfl : k = 0 := by omega
      have hn' : (limbs (val l)).length = 0 := by
        have := HV.out
        rw [List.take_zero] at this
        rw [← this]
        rw [show val [] = 0 from rfl, limbs_zero]; rfl
      have HN := Lib.hid hn'
      clear hn'
      go_wp2_with fail
      go_ret
      exact ⟨ret_slice HN.out.symm, hb⟩
theorem rlimb_any (A : Option Addr) (c : Nat) (l : List Nat) (i : Nat) (w : World) (h : SlW w A c l) (hi : i ≤ 1000000000000) :
    Calls Try.prog 111 #[.slice A l.length c, .int .i64 i] w fun e w' => e = .returned (.int .u64 ((l.getD i 0 : Nat) : Int)) ∧ w = w' := by
  have hm := h.len
  have hmm := h.max
  have hc := h.cap
  by_cases hlt : i < l.length
  · obtain ⟨b, o, rfl, hcell⟩ := limW_cell h.lim (by omega)
    have e1 := hcell i hlt
    have hx := h.ok.getD i
    clear hcell h
    generalize l.getD i 0 = x at e1 hx ⊢
    generalize l.length = n at *
    have hw : IntKind.u64.wrap (x : Int) = (x : Int) := by rw [IntKind.wrap_u64]; omega
    have hl : ¬ ((n : Int) ≤ (i : Int)) := by omega
    go_enter Try.func111, Try.ntmps111
    go_wp2_with fail
    go_ret
    exact ⟨rfl, rfl⟩
  · have e1 : l.getD i 0 = 0 := by rw [List.getD_eq_getElem?_getD, List.getElem?_eq_none (by omega)]; rfl
    rw [e1]
    generalize l.length = n at *
    have hl : (n : Int) ≤ (i : Int) := by omega
    go_enter Try.func111, Try.ntmps111
    go_wp2_with fail
    go_ret
    exact ⟨rfl, rfl⟩
end Go.Proofs.Ytodigegjngnknaa
namespace Go.Proofs.Ytodigegjngnknaa
open Go.RowKit GW NL
theorem rcmp_same (A1 A2 : Option Addr) (c1 c2 : Nat) (l1 l2 : List Nat) (w : World) (h1 : SlW w A1 c1 l1) (h2 : SlW w A2 c2 l2) (hl : l1.length = l2.length) (hl9 : l1.length ≤ 1000000000) :
    Calls Try.prog 113 #[.slice A1 l1.length c1, .slice A2 l2.length c2] w fun e w' => e = .returned (.int .i64 (ord (val l1) (val l2))) ∧ Below w.heap.size w w' := by
  obtain ⟨n, hn⟩ : ∃ n, l1.length = n := ⟨_, rfl⟩
  have hn2 : l2.length = n := by omega
  have o1 := h1.ok
  have o2 := h2.ok
  rw [hn2, hn]
  have H1 := Lib.hid hn
  have H2 := Lib.hid hn2
  have hn9 : n ≤ 1000000000 := by omega
  clear hn hn2 hl hl9
  go_enter Try.func113, Try.ntmps113
  go_wp2_with fail
  go_loopg [5] n (fun gk s5 wr => gk ≤ n ∧ s5 = .int .i64 ((gk : Int) - 1) ∧ Hid (∀ j, gk ≤ j → j < n → l1.getD j 0 = l2.getD j 0) ∧ Below w.heap.size w wr)
  case atStart => exact ⟨Nat.le_refl _, rfl, fun j h1 h2 => by omega, Below.refl _ _⟩
  case round =>
    obtain ⟨hg, rfl, HE, hb⟩ := hrel
    cases gk with
    | zero =>
      have he : l1 = l2 := eq_of_all (by rw [H1.out, H2.out]) fun j hj => HE.out j (Nat.zero_le _) (by rw [← H1.out]; exact hj)
      have hord : ord (val l1) (val l2) = 0 := by rw [he]; exact ord_self _
      have HO := Lib.hid hord
      clear he hord
      go_wp2_with fail
      go_ret
      exact ⟨ret_int HO.out.symm, hb⟩
    | succ k =>
      rw [show ((k + 1 : Nat) : Int) - 1 = (k : Int) by omega]
      have k1 : (k : Int) < (n : Int) := by omega
      obtain ⟨b1, p1, rfl, hc1⟩ := limW_cell h1.lim (by rw [H1.out]; omega)
      obtain ⟨b2, p2, rfl, hc2⟩ := limW_cell h2.lim (by rw [H2.out]; omega)
      have e1 := below_old hb (hc1 k (by rw [H1.out]; omega))
      have e2 := below_old hb (hc2 k (by rw [H2.out]; omega))
      clear hc1 hc2
      have hat := fun hne => Lib.hid (ord_at o1 o2 (by rw [H1.out, H2.out]) (k := k) (by rw [H1.out]; omega) (fun j hj hj2 => HE.out j (by omega) (by rw [← H1.out]; exact hj2)) hne)
      have HAT := Lib.hid hat
      clear hat
      obtain ⟨x, hx⟩ : ∃ x, l1.getD k 0 = x := ⟨_, rfl⟩
      obtain ⟨y, hy⟩ : ∃ y, l2.getD k 0 = y := ⟨_, rfl⟩
      rw [hx] at e1 HAT
      rw [hy] at e2 HAT
      have HX := Lib.hid hx
      have HY := Lib.hid hy
      clear hx hy
      rcases Nat.lt_trichotomy x y with h | h | h
      · have h' : (x : Int) < (y : Int) := by omega
        have hord : ord (val l1) (val l2) = -1 := by rw [(HAT.out (by omega)).out]; unfold ord; rw [if_pos h]
        have HO := Lib.hid hord
        clear hord HAT h
        go_wp2_with fail
        go_quiet (fail)
        go_wp2_with fail
        go_ret
        exact ⟨ret_int HO.out.symm, ⟨hb.os, hb.tape, hb.output, hb.size, hb.block⟩⟩
      · subst h
        have h' : ¬ ((x : Int) < (x : Int)) := by omega
        clear HAT
        go_wp2_with fail
        go_quiet (fail)
        go_wp2_with fail
        go_quiet (fail)
        go_wp2_with fail
        go_roundg k
        case measure => omega
        case rel => exact ⟨by omega, rfl, fun j hj1 hj2 => by
          rcases Nat.lt_or_ge k j with h | h
          · exact HE.out j (by omega) hj2
          · obtain rfl : j = k := by omega
            rw [HX.out, HY.out], ⟨hb.os, hb.tape, hb.output, hb.size, hb.block⟩⟩
      · have h' : ¬ ((x : Int) < (y : Int)) := by omega
        have h'' : (y : Int) < (x : Int) := by omega
        have hord : ord (val l1) (val l2) = 1 := by rw [(HAT.out (by omega)).out]; unfold ord; rw [if_neg (by omega), if_pos h]
        have HO := Lib.hid hord
        clear hord HAT h
        go_wp2_with fail
        go_quiet (fail)
        go_wp2_with fail
        go_quiet (fail)
        go_wp2_with fail
        go_ret
        exact ⟨ret_int HO.out.symm, ⟨hb.os, hb.tape, hb.output, hb.size, hb.block⟩⟩
theorem rcmp_any (A1 A2 : Option Addr) (c1 c2 a b : Nat) (w : World) (h1 : SlW w A1 c1 (limbs a)) (h2 : SlW w A2 c2 (limbs b)) (hl9 : (limbs a).length ≤ 1000000000) :
    Calls Try.prog 113 #[.slice A1 (limbs a).length c1, .slice A2 (limbs b).length c2] w fun e w' => e = .returned (.int .i64 (ord a b)) ∧ Below w.heap.size w w' := by
  rcases Nat.lt_trichotomy (limbs a).length (limbs b).length with h | h | h
  · have hord : ord a b = -1 := by unfold ord; rw [if_pos (limbs_lt_of_len h)]
    rw [hord]
    have h' : ((limbs a).length : Int) < ((limbs b).length : Int) := by omega
    clear hord h
    generalize (limbs a).length = n1 at *
    generalize (limbs b).length = n2 at *
    go_enter Try.func113, Try.ntmps113
    go_wp2_with fail
    go_ret
    exact ⟨rfl, Below.refl _ _⟩
  · have := rcmp_same A1 A2 c1 c2 (limbs a) (limbs b) w h1 h2 h hl9
    rwa [val_limbs, val_limbs] at this
  · have hord : ord a b = 1 := by have := limbs_lt_of_len h; unfold ord; rw [if_neg (by omega), if_pos this]
    rw [hord]
    have h' : ¬ ((limbs a).length : Int) < ((limbs b).length : Int) := by omega
    have h'' : ((limbs b).length : Int) < ((limbs a).length : Int) := by omega
    clear hord h
    generalize (limbs a).length = n1 at *
    generalize (limbs b).length = n2 at *
    go_enter Try.func113, Try.ntmps113
    go_wp2_with fail
    go_ret
    exact ⟨rfl, Below.refl _ _⟩
theorem nb_half {x : Nat} (h : x ≠ 0) : nb x = nb (x / 2) + 1 := by
  apply nb_uniq
  · have := nb_lt (x / 2)
    rw [Nat.pow_succ]; omega
  · right
    rw [Nat.add_sub_cancel]
    by_cases h2 : x / 2 = 0
    · rw [h2, nb_zero]; omega
    · have h3 := nb_ge h2
      have h4 := nb_pos h2
      have : 2 ^ nb (x / 2) = 2 * 2 ^ (nb (x / 2) - 1) := by rw [← Nat.pow_succ']; congr 1; omega
      omega
theorem rbits_any (A : Option Addr) (c v : Nat) (w : World) (h : SlW w A c (limbs v)) (hl : (limbs v).length ≤ 1000000000) :
    Calls Try.prog 85 #[.slice A (limbs v).length c] w fun e w' => e = .returned (.int .i64 (nb v : Nat)) ∧ Below w.heap.size w w' := by
  by_cases h0 : v = 0
  · subst h0
    rw [limbs_zero, nb_zero]
    go_enter Try.func85, Try.ntmps85
    go_wp2_with fail
    go_ret
    exact ⟨rfl, Below.refl _ _⟩
  · obtain ⟨m, hm⟩ : ∃ m, (limbs v).length = m + 1 := ⟨(limbs v).length - 1, by have := len_ne h0; omega⟩
    obtain ⟨b, o, rfl, hcell⟩ := limW_cell h.lim (by omega)
    have e1 := hcell m (by omega)
    have hx := (ok_limbs v).getD m
    have hnb := nb_top hm
    have hxn : nb ((limbs v).getD m 0) ≤ 32 := (nb_le _ _).2 hx
    rw [hnb]
    clear hcell h h0
    generalize (limbs v).getD m 0 = x at *
    have hm9 : m ≤ 1000000000 := by omega
    rw [hm]
    have hw1 : IntKind.i64.wrap (32 * (m : Int)) = 32 * (m : Int) := by rw [IntKind.wrap_i64]; omega
    clear hnb hm hl
    obtain ⟨M, hM⟩ : ∃ M, 32 * m = M := ⟨_, rfl⟩
    have hMi : 32 * (m : Int) = (M : Int) := by omega
    have hM9 : M ≤ 32000000000 := by omega
    rw [hM]
    clear hM
    go_enter Try.func85, Try.ntmps85
    go_wp2_with fail
    go_loopg [3, 4] x (fun gk s3 s4 wr => ∃ k : Nat, Hid (k + nb gk = M + nb x) ∧ k ≤ 33000000000 ∧ s3 = .int .i64 (k : Int) ∧ s4 = .int .u32 (gk : Int) ∧ gk < 4294967296 ∧ Below w.heap.size w wr)
    case atStart => exact ⟨M, rfl, by omega, rfl, rfl, hx, Below.refl _ _⟩
    case round =>
      obtain ⟨k, HK, hk9, rfl, rfl, hg, hb⟩ := hrel
      clear e1
      by_cases h0 : gk = 0
      · subst h0
        have hK := HK.out
        rw [nb_zero, Nat.add_zero] at hK
        have HK3 := Lib.hid hK
        clear hK HK
        go_wp2_with fail
        go_ret
        exact ⟨ret_int (by have := HK3.out; omega), hb⟩
      · have hgi : (0 : Int) < (gk : Int) := by omega
        obtain ⟨y, hy⟩ : ∃ y, gk / 2 = y := ⟨_, rfl⟩
        have hyi : Int.tdiv (gk : Int) 2 = (y : Int) := by rw [Int.tdiv_eq_ediv_of_nonneg (by omega)]; omega
        have hyj : (gk : Int) / 2 = (y : Int) := by omega
        have hlt : y < gk := by omega
        have HK2 : Hid (k + 1 + nb y = M + nb x) := Lib.hid (by have := HK.out; rw [nb_half h0, hy] at this; omega)
        have hk8 : k + 1 ≤ 33000000000 := by
          have := HK2.out; omega
        clear hy HK
        go_wp2_with fail
        go_roundg y
        case measure => exact hlt
        case rel => exact ⟨k + 1, HK2, hk8, by go_num, rfl, by omega, hb⟩
end Go.Proofs.Ytodigegjngnknaa
