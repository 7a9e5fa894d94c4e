/- Plain facts and contracts of functions of the program, out of walks. Their conditions stand ahead of each. -/
import Derived.Test.YtjdnpkicdmapnaaDoorRt41
import Derived.Below
import Derived.BigQuiet
import Derived.Deep.Draws
import Derived.Deep.LoopGhost
import Derived.Deep.QuietTactic
import Derived.Deep.RegionHeld3
import Derived.Deep.RegionLaw
import Derived.Defers
import Derived.Laws.BytesString
import Derived.Laws.Cells
import Derived.Laws.CopyOwn
import Derived.Laws.CopyRow
import Derived.Laws.NewBlocks
import Derived.Laws.OwnMore
import Derived.Laws.Pointers
import Derived.Laws.Rows
import Derived.Lib.BitFns
import Derived.Lib.Hide
import Derived.Lib.ItoaNum
import Derived.Lib.TrailingZeros
import Derived.LoopIn
import Derived.LoopNIn
import Derived.Maps.AppendAt
import Derived.OrdersIn
import Derived.OwnWalk
import Derived.OwnWalkIn
import Derived.RangeFuncBound
import Derived.RangeFuncBox
import Derived.RangeFuncCalls
import Derived.RangeFuncLeaves
import Derived.RangeFuncNested
import Derived.RowKit3
import Derived.Shelf.Abstract
import Derived.Shelf.RegionOpen
import Derived.Shelf.Spec.TrailingZeros
import Derived.StillTactics
import Derived.StillTailTactics
import Derived.TacticsInMore
import Derived.Test.YtjdnpkicdmapnaaDoorProg
import Derived.WalkKit
import Derived.WalkLawsBesides
import Derived.WalkMore
import Derived.WalkSpells
set_option linter.unusedVariables false
set_option linter.unusedSimpArgs false
namespace Go.Proofs.YtjdnpkicdmapnaaDoor
open Go.RowKit GW NL
theorem cmark {P : Program} {f : FuncId} {args : Array Value} {R : Ending → World → Prop} {w0 : World} {X : List Nat} {M : List Blk} {I : List Frag} (g : G w0 X M I) (h : ∀ g : G w0 X M I, Calls P f args g.w R) : Calls P f args g.mark.w R := h _
theorem ladd (A1 A2 : Option Addr) (c1 c2 a b : Nat) (w : World) (h1 : SlW w A1 c1 (limbs a)) (h2 : SlW w A2 c2 (limbs b)) (hl1 : (limbs a).length ≤ 100000000) (hl2 : (limbs b).length ≤ 100000000) :
    Calls Tryd.prog 69 #[.slice A1 (limbs a).length c1, .slice A2 (limbs b).length c2] w (RNat (a + b) w) := by
  have := lplus_any A1 A2 c1 c2 (limbs a) (limbs b) w h1 h2 (by omega) (by omega)
  rwa [val_limbs, val_limbs] at this
theorem lsub (A1 A2 : Option Addr) (c1 c2 a b : Nat) (w : World) (h1 : SlW w A1 c1 (limbs a)) (h2 : SlW w A2 c2 (limbs b)) (hl1 : (limbs a).length ≤ 100000000) (h : b ≤ a) :
    Calls Tryd.prog 71 #[.slice A1 (limbs a).length c1, .slice A2 (limbs b).length c2] w (RNat (a - b) w) := by
  have := lless_any A1 A2 c1 c2 (limbs a) (limbs b) w h1 h2 (by omega) (limbs_len_mono h) (by rw [val_limbs, val_limbs]; exact h)
  rwa [val_limbs, val_limbs] at this
set_option maxRecDepth 20000 in
set_option maxHeartbeats 4000000 in
theorem fplus_same (s : Bool) (A1 B1 A2 B2 : Option Addr) (c1 k1 c2 k2 n1 d1 n2 d2 : Nat) (w : World) (h1 : SlW w A1 c1 (limbs n1)) (j1 : SlW w B1 k1 (limbs d1)) (h2 : SlW w A2 c2 (limbs n2)) (j2 : SlW w B2 k2 (limbs d2)) (hT : Tab w)
    (l1 : (limbs n1).length ≤ 10000000) (m1 : (limbs d1).length ≤ 10000000) (l2 : (limbs n2).length ≤ 10000000) (m2 : (limbs d2).length ≤ 10000000) (z1 : d1 ≠ 0) (z2 : d2 ≠ 0)  :
    Calls Tryd.prog 35 #[.agg #[.bool s, .slice A1 (limbs n1).length c1, .slice B1 (limbs d1).length k1], .agg #[.bool s, .slice A2 (limbs n2).length c2, .slice B2 (limbs d2).length k2]] w (RNf (frac s n1 d1 + frac s n2 d2) w) := by
  refine calls_n fun g => ?_
  have C1 := Lib.hid (fun w a b => lmul A1 B2 c1 k2 n1 d2 w a b (by omega) (by omega))
  have C2 := Lib.hid (fun w a b => lmul A2 B1 c2 k1 n2 d1 w a b (by omega) (by omega))
  have C3 := Lib.hid (fun w a b => lmul B1 B2 k1 k2 d1 d2 w a b (by omega) (by omega))
  have q1 := limbs_mul_len n1 d2
  have q2 := limbs_mul_len n2 d1
  have q3 := limbs_mul_len d1 d2
  have hd : d1 * d2 ≠ 0 := Nat.mul_ne_zero z1 z2
  have HT := Lib.hid hT
  rw [frac_add_same s z1 z2]
  have CA := Lib.hid (fun A1 A2 c1 c2 w a b => ladd A1 A2 c1 c2 (n1 * d2) (n2 * d1) w a b (by omega) (by omega))
  have q4 := limbs_add_len (n1 * d2) (n2 * d1)
  have CL := Lib.hid (fun F A c B k s w hF h1 h2 hT => low_rat F s A B c k (n1 * d2 + n2 * d1) (d1 * d2) w hF h1 h2 hT (by omega) (by omega) hd)
  clear hT hd z1 z2
  generalize hX : n1 * d2 = X at *
  generalize hY : n2 * d1 = Y at *
  generalize hD : d1 * d2 = D at *
  clear hX hY hD
  generalize (limbs n1).length = ln1 at *
  generalize (limbs d1).length = ld1 at *
  generalize (limbs n2).length = ln2 at *
  generalize (limbs d2).length = ld2 at *
  cases s
  all_goals
    go_enter Tryd.func35, Tryd.ntmps35
    go_wp2_with (with_reducible refine G.any_mark _ ?_; (try generalize Array.size (World.heap (G.w _)) = bk); (try dsimp only [List.set_cons_zero, List.set_cons_succ]); (try clear g); intro g)
    go_region_held3 (G.heldN g [false, true, true]) (simp [G.heldN, HeldN, go_sem]) (first
      | (go_at_call 68; (with_reducible refine (C1.out _ ?_ ?_).mono ?_); (· exact G.sl _ (by simp) h1); (· exact G.sl _ (by simp) j2); rintro e w1 ⟨X1, x1, P1, rfl, hx1, hn1⟩; have ho1 := New.over hn1 nilF (G.chg _).size; obtain ⟨g1, rfl⟩ := G.new_ex _ hn1; clear hn1; (try clear g); revert g1; intro g)
      | (go_at_call 68; (with_reducible refine (C2.out _ ?_ ?_).mono ?_); (· exact G.sl _ (by simp) h2); (· exact G.sl _ (by simp) j1); rintro e w1 ⟨X2, x2, P2, rfl, hx2, hn2⟩; have ho2 := New.over hn2 nilF (G.chg _).size; obtain ⟨g1, rfl⟩ := G.new_ex _ hn2; clear hn2; (try clear g); revert g1; intro g))
    all_goals ((try simp only [G.drew_eq, G.drewN_eq]); (refine G.any_mark _ ?_; (try clear g); intro g))
    all_goals go_wp2_with (with_reducible refine G.any_mark _ ?_; (try generalize Array.size (World.heap (G.w _)) = bk); (try dsimp only [List.set_cons_zero, List.set_cons_succ]); (try clear g); intro g)
    all_goals go_region_held3 (G.heldN g [false, true, true]) (simp [G.heldN, HeldN, go_sem]) (first
      | (go_at_call 68; (with_reducible refine (C3.out _ ?_ ?_).mono ?_); (· exact G.sl _ (by simp) j1); (· exact G.sl _ (by simp) j2); rintro e w1 ⟨X3, x3, P3, rfl, hx3, hn3⟩; have ho3 := New.over hn3 nilF (G.chg _).size; obtain ⟨g1, rfl⟩ := G.new_ex _ hn3; clear hn3; (try clear g); revert g1; intro g))
    all_goals (first | ((try simp only [G.drew_eq, G.drewN_eq]); (refine G.any_mark _ ?_; (try generalize Array.size (World.heap (G.w _)) = bk); (try dsimp only [List.set_cons_zero, List.set_cons_succ]); (try clear g); intro g)) | skip)
    all_goals go_wp2_with (with_reducible refine G.any_mark _ ?_; (try generalize Array.size (World.heap (G.w _)) = bk); (try dsimp only [List.set_cons_zero, List.set_cons_succ]); (try clear g); intro g)
    all_goals
      (with_reducible refine (CA.out _ _ _ _ _ ?_ ?_).mono ?_)
      · exact G.sl _ (by simp) hx1
      · exact G.sl _ (by simp) hx2
      rintro e w1 ⟨X4, x4, P4, rfl, hx4, hn4⟩
      have ho4 := New.over hn4 nilF (G.chg _).size
      obtain ⟨g1, rfl⟩ := G.new_ex _ hn4
      clear hn4
      (try clear g)
      revert g1
      intro g
    all_goals go_wp2_with (with_reducible refine G.any_mark _ ?_; (try generalize Array.size (World.heap (G.w _)) = bk); (try dsimp only [List.set_cons_zero, List.set_cons_succ]); (try clear g); intro g)
    all_goals (try (refine cmark _ ?_; (try dsimp only [List.set_cons_zero, List.set_cons_succ]); (try clear g); intro g))
    all_goals (with_reducible refine (CL.out (g.fr nilF) _ _ _ _ _ _ (g.fr_sub (by simp)) (g.fr_sl (by simp) ho4 hx4) (g.fr_sl (by simp) ho3 hx3) (G.tab g HT.out)).mono ?_)
    all_goals
      rintro e w1 ⟨Y1, y1, Q1, Y2, y2, Q2, rfl, hy1, hy2, hn1, hn2⟩
      obtain ⟨g1, rfl, hov1, hov2⟩ := G.new3_ex g hn1 hn2
      clear hn1 hn2
      (try clear g)
      revert g1
      intro g
    all_goals generalize frac _ (X + Y) D = x at *
    all_goals go_wp2_with (with_reducible refine G.any_mark _ ?_; (try generalize Array.size (World.heap (G.w _)) = bk); (try dsimp only [List.set_cons_zero, List.set_cons_succ]); (try clear g); intro g)
    all_goals refine bodyPost_ret (v := .agg #[.bool (rneg x), .slice Y1 (limbs (rn x)).length y1, .slice Y2 (limbs x.den).length y2]) (by simp [results, Tryd.results35, go_sem]) rfl ?_
    all_goals exact ⟨Y1, y1, Q1, Y2, y2, Q2, rfl, hy1, hy2, G.pass _ (by simp) (over_new hov1), G.pass _ (by simp) (over_new hov2)⟩
set_option maxRecDepth 20000 in
set_option maxHeartbeats 4000000 in
theorem fplus_lt (s t : Bool) (A1 B1 A2 B2 : Option Addr) (c1 k1 c2 k2 n1 d1 n2 d2 : Nat) (w : World) (h1 : SlW w A1 c1 (limbs n1)) (j1 : SlW w B1 k1 (limbs d1)) (h2 : SlW w A2 c2 (limbs n2)) (j2 : SlW w B2 k2 (limbs d2)) (hT : Tab w)
    (l1 : (limbs n1).length ≤ 10000000) (m1 : (limbs d1).length ≤ 10000000) (l2 : (limbs n2).length ≤ 10000000) (m2 : (limbs d2).length ≤ 10000000) (z1 : d1 ≠ 0) (z2 : d2 ≠ 0) (hst : s ≠ t) (hlt : n1 * d2 < n2 * d1) :
    Calls Tryd.prog 35 #[.agg #[.bool s, .slice A1 (limbs n1).length c1, .slice B1 (limbs d1).length k1], .agg #[.bool t, .slice A2 (limbs n2).length c2, .slice B2 (limbs d2).length k2]] w (RNf (frac s n1 d1 + frac t n2 d2) w) := by
  refine calls_n fun g => ?_
  have C1 := Lib.hid (fun w a b => lmul A1 B2 c1 k2 n1 d2 w a b (by omega) (by omega))
  have C2 := Lib.hid (fun w a b => lmul A2 B1 c2 k1 n2 d1 w a b (by omega) (by omega))
  have C3 := Lib.hid (fun w a b => lmul B1 B2 k1 k2 d1 d2 w a b (by omega) (by omega))
  have q1 := limbs_mul_len n1 d2
  have q2 := limbs_mul_len n2 d1
  have q3 := limbs_mul_len d1 d2
  have hd : d1 * d2 ≠ 0 := Nat.mul_ne_zero z1 z2
  have HT := Lib.hid hT
  rw [frac_add_lt hst z1 z2 hlt]
  have CC := Lib.hid (fun A1 A2 c1 c2 w a b => lcmp_any A1 A2 c1 c2 (n1 * d2) (n2 * d1) w a b (by omega) (by omega))
  have CA := Lib.hid (fun A1 A2 c1 c2 w a b => lsub A1 A2 c1 c2 (n2 * d1) (n1 * d2) w a b (by omega) (by omega))
  have q4 : (limbs (n2 * d1 - n1 * d2)).length ≤ (limbs (n2 * d1)).length := limbs_len_mono (Nat.sub_le _ _)
  have hcv : lcv (n1 * d2) (n2 * d1) < 0 := lcv_lt.2 hlt
  generalize lcv (n1 * d2) (n2 * d1) = cv at *
  clear hlt
  have CL := Lib.hid (fun F A c B k s w hF h1 h2 hT => low_rat F s A B c k (n2 * d1 - n1 * d2) (d1 * d2) w hF h1 h2 hT (by omega) (by omega) hd)
  clear hT hd z1 z2
  generalize hX : n1 * d2 = X at *
  generalize hY : n2 * d1 = Y at *
  generalize hD : d1 * d2 = D at *
  clear hX hY hD
  generalize (limbs n1).length = ln1 at *
  generalize (limbs d1).length = ld1 at *
  generalize (limbs n2).length = ln2 at *
  generalize (limbs d2).length = ld2 at *
  cases s <;> cases t
  all_goals (try exact absurd rfl hst)
  all_goals clear hst
  all_goals
    go_enter Tryd.func35, Tryd.ntmps35
    go_wp2_with (with_reducible refine G.any_mark _ ?_; (try generalize Array.size (World.heap (G.w _)) = bk); (try dsimp only [List.set_cons_zero, List.set_cons_succ]); (try clear g); intro g)
    go_region_held3 (G.heldN g [false, true, true]) (simp [G.heldN, HeldN, go_sem]) (first
      | (go_at_call 68; (with_reducible refine (C1.out _ ?_ ?_).mono ?_); (· exact G.sl _ (by simp) h1); (· exact G.sl _ (by simp) j2); rintro e w1 ⟨X1, x1, P1, rfl, hx1, hn1⟩; have ho1 := New.over hn1 nilF (G.chg _).size; obtain ⟨g1, rfl⟩ := G.new_ex _ hn1; clear hn1; (try clear g); revert g1; intro g)
      | (go_at_call 68; (with_reducible refine (C2.out _ ?_ ?_).mono ?_); (· exact G.sl _ (by simp) h2); (· exact G.sl _ (by simp) j1); rintro e w1 ⟨X2, x2, P2, rfl, hx2, hn2⟩; have ho2 := New.over hn2 nilF (G.chg _).size; obtain ⟨g1, rfl⟩ := G.new_ex _ hn2; clear hn2; (try clear g); revert g1; intro g))
    all_goals ((try simp only [G.drew_eq, G.drewN_eq]); (refine G.any_mark _ ?_; (try clear g); intro g))
    all_goals go_wp2_with (with_reducible refine G.any_mark _ ?_; (try generalize Array.size (World.heap (G.w _)) = bk); (try dsimp only [List.set_cons_zero, List.set_cons_succ]); (try clear g); intro g)
    all_goals go_region_held3 (G.heldN g [false, true, true]) (simp [G.heldN, HeldN, go_sem]) (first
      | (go_at_call 68; (with_reducible refine (C3.out _ ?_ ?_).mono ?_); (· exact G.sl _ (by simp) j1); (· exact G.sl _ (by simp) j2); rintro e w1 ⟨X3, x3, P3, rfl, hx3, hn3⟩; have ho3 := New.over hn3 nilF (G.chg _).size; obtain ⟨g1, rfl⟩ := G.new_ex _ hn3; clear hn3; (try clear g); revert g1; intro g))
    all_goals (first | ((try simp only [G.drew_eq, G.drewN_eq]); (refine G.any_mark _ ?_; (try generalize Array.size (World.heap (G.w _)) = bk); (try dsimp only [List.set_cons_zero, List.set_cons_succ]); (try clear g); intro g)) | skip)
    all_goals go_wp2_with (with_reducible refine G.any_mark _ ?_; (try generalize Array.size (World.heap (G.w _)) = bk); (try dsimp only [List.set_cons_zero, List.set_cons_succ]); (try clear g); intro g)
    all_goals
      (with_reducible refine (CC.out _ _ _ _ _ ?_ ?_).mono ?_)
      · exact G.sl _ (by simp) hx1
      · exact G.sl _ (by simp) hx2
      rintro e w1 ⟨rfl, hb⟩
      obtain ⟨g1, rfl⟩ := G.call_ex _ hb
      clear hb
      (try clear g)
      revert g1
      intro g
    all_goals go_wp2_with (with_reducible refine G.any_mark _ ?_; (try generalize Array.size (World.heap (G.w _)) = bk); (try dsimp only [List.set_cons_zero, List.set_cons_succ]); (try clear g); intro g)
    all_goals go_region_held3 (G.heldN g [false, false, true, true]) (simp [G.heldN, HeldN, go_sem]) (first
      | (go_at_call 71; (with_reducible refine (CA.out _ _ _ _ _ ?_ ?_).mono ?_); (· exact G.sl _ (by simp) hx2); (· exact G.sl _ (by simp) hx1); rintro e w1 ⟨X4, x4, P4, rfl, hx4, hn4⟩; have ho4 := New.over hn4 nilF (G.chg _).size; obtain ⟨g1, rfl⟩ := G.new_ex _ hn4; clear hn4; (try clear g); revert g1; intro g))
    all_goals (first | ((try simp only [G.drew_eq, G.drewN_eq]); (refine G.any_mark _ ?_; (try generalize Array.size (World.heap (G.w _)) = bk); (try dsimp only [List.set_cons_zero, List.set_cons_succ]); (try clear g); intro g)) | skip)
    all_goals go_wp2_with (with_reducible refine G.any_mark _ ?_; (try generalize Array.size (World.heap (G.w _)) = bk); (try dsimp only [List.set_cons_zero, List.set_cons_succ]); (try clear g); intro g)
    all_goals (try (refine cmark _ ?_; (try dsimp only [List.set_cons_zero, List.set_cons_succ]); (try clear g); intro g))
    all_goals (with_reducible refine (CL.out (g.fr nilF) _ _ _ _ _ _ (g.fr_sub (by simp)) (g.fr_sl (by simp) ho4 hx4) (g.fr_sl (by simp) ho3 hx3) (G.tab g HT.out)).mono ?_)
    all_goals
      rintro e w1 ⟨Y1, y1, Q1, Y2, y2, Q2, rfl, hy1, hy2, hn1, hn2⟩
      obtain ⟨g1, rfl, hov1, hov2⟩ := G.new3_ex g hn1 hn2
      clear hn1 hn2
      (try clear g)
      revert g1
      intro g
    all_goals generalize frac _ (Y - X) D = x at *
    all_goals go_wp2_with (with_reducible refine G.any_mark _ ?_; (try generalize Array.size (World.heap (G.w _)) = bk); (try dsimp only [List.set_cons_zero, List.set_cons_succ]); (try clear g); intro g)
    all_goals refine bodyPost_ret (v := .agg #[.bool (rneg x), .slice Y1 (limbs (rn x)).length y1, .slice Y2 (limbs x.den).length y2]) (by simp [results, Tryd.results35, go_sem]) rfl ?_
    all_goals exact ⟨Y1, y1, Q1, Y2, y2, Q2, rfl, hy1, hy2, G.pass _ (by simp) (over_new hov1), G.pass _ (by simp) (over_new hov2)⟩
set_option maxRecDepth 20000 in
set_option maxHeartbeats 4000000 in
theorem fplus_ge (s t : Bool) (A1 B1 A2 B2 : Option Addr) (c1 k1 c2 k2 n1 d1 n2 d2 : Nat) (w : World) (h1 : SlW w A1 c1 (limbs n1)) (j1 : SlW w B1 k1 (limbs d1)) (h2 : SlW w A2 c2 (limbs n2)) (j2 : SlW w B2 k2 (limbs d2)) (hT : Tab w)
    (l1 : (limbs n1).length ≤ 10000000) (m1 : (limbs d1).length ≤ 10000000) (l2 : (limbs n2).length ≤ 10000000) (m2 : (limbs d2).length ≤ 10000000) (z1 : d1 ≠ 0) (z2 : d2 ≠ 0) (hst : s ≠ t) (hlt : ¬ n1 * d2 < n2 * d1) :
    Calls Tryd.prog 35 #[.agg #[.bool s, .slice A1 (limbs n1).length c1, .slice B1 (limbs d1).length k1], .agg #[.bool t, .slice A2 (limbs n2).length c2, .slice B2 (limbs d2).length k2]] w (RNf (frac s n1 d1 + frac t n2 d2) w) := by
  refine calls_n fun g => ?_
  have C1 := Lib.hid (fun w a b => lmul A1 B2 c1 k2 n1 d2 w a b (by omega) (by omega))
  have C2 := Lib.hid (fun w a b => lmul A2 B1 c2 k1 n2 d1 w a b (by omega) (by omega))
  have C3 := Lib.hid (fun w a b => lmul B1 B2 k1 k2 d1 d2 w a b (by omega) (by omega))
  have q1 := limbs_mul_len n1 d2
  have q2 := limbs_mul_len n2 d1
  have q3 := limbs_mul_len d1 d2
  have hd : d1 * d2 ≠ 0 := Nat.mul_ne_zero z1 z2
  have HT := Lib.hid hT
  rw [frac_add_ge hst z1 z2 hlt]
  have CC := Lib.hid (fun A1 A2 c1 c2 w a b => lcmp_any A1 A2 c1 c2 (n1 * d2) (n2 * d1) w a b (by omega) (by omega))
  have CA := Lib.hid (fun A1 A2 c1 c2 w a b => lsub A1 A2 c1 c2 (n1 * d2) (n2 * d1) w a b (by omega) (by omega))
  have q4 : (limbs (n1 * d2 - n2 * d1)).length ≤ (limbs (n1 * d2)).length := limbs_len_mono (Nat.sub_le _ _)
  have hcv : ¬ lcv (n1 * d2) (n2 * d1) < 0 := fun h => hlt (lcv_lt.1 h)
  generalize lcv (n1 * d2) (n2 * d1) = cv at *
  clear hlt
  have CL := Lib.hid (fun F A c B k s w hF h1 h2 hT => low_rat F s A B c k (n1 * d2 - n2 * d1) (d1 * d2) w hF h1 h2 hT (by omega) (by omega) hd)
  clear hT hd z1 z2
  generalize hX : n1 * d2 = X at *
  generalize hY : n2 * d1 = Y at *
  generalize hD : d1 * d2 = D at *
  clear hX hY hD
  generalize (limbs n1).length = ln1 at *
  generalize (limbs d1).length = ld1 at *
  generalize (limbs n2).length = ln2 at *
  generalize (limbs d2).length = ld2 at *
  cases s <;> cases t
  all_goals (try exact absurd rfl hst)
  all_goals clear hst
  all_goals
    go_enter Tryd.func35, Tryd.ntmps35
    go_wp2_with (with_reducible refine G.any_mark _ ?_; (try generalize Array.size (World.heap (G.w _)) = bk); (try dsimp only [List.set_cons_zero, List.set_cons_succ]); (try clear g); intro g)
    go_region_held3 (G.heldN g [false, true, true]) (simp [G.heldN, HeldN, go_sem]) (first
      | (go_at_call 68; (with_reducible refine (C1.out _ ?_ ?_).mono ?_); (· exact G.sl _ (by simp) h1); (· exact G.sl _ (by simp) j2); rintro e w1 ⟨X1, x1, P1, rfl, hx1, hn1⟩; have ho1 := New.over hn1 nilF (G.chg _).size; obtain ⟨g1, rfl⟩ := G.new_ex _ hn1; clear hn1; (try clear g); revert g1; intro g)
      | (go_at_call 68; (with_reducible refine (C2.out _ ?_ ?_).mono ?_); (· exact G.sl _ (by simp) h2); (· exact G.sl _ (by simp) j1); rintro e w1 ⟨X2, x2, P2, rfl, hx2, hn2⟩; have ho2 := New.over hn2 nilF (G.chg _).size; obtain ⟨g1, rfl⟩ := G.new_ex _ hn2; clear hn2; (try clear g); revert g1; intro g))
    all_goals ((try simp only [G.drew_eq, G.drewN_eq]); (refine G.any_mark _ ?_; (try clear g); intro g))
    all_goals go_wp2_with (with_reducible refine G.any_mark _ ?_; (try generalize Array.size (World.heap (G.w _)) = bk); (try dsimp only [List.set_cons_zero, List.set_cons_succ]); (try clear g); intro g)
    all_goals go_region_held3 (G.heldN g [false, true, true]) (simp [G.heldN, HeldN, go_sem]) (first
      | (go_at_call 68; (with_reducible refine (C3.out _ ?_ ?_).mono ?_); (· exact G.sl _ (by simp) j1); (· exact G.sl _ (by simp) j2); rintro e w1 ⟨X3, x3, P3, rfl, hx3, hn3⟩; have ho3 := New.over hn3 nilF (G.chg _).size; obtain ⟨g1, rfl⟩ := G.new_ex _ hn3; clear hn3; (try clear g); revert g1; intro g))
    all_goals (first | ((try simp only [G.drew_eq, G.drewN_eq]); (refine G.any_mark _ ?_; (try generalize Array.size (World.heap (G.w _)) = bk); (try dsimp only [List.set_cons_zero, List.set_cons_succ]); (try clear g); intro g)) | skip)
    all_goals go_wp2_with (with_reducible refine G.any_mark _ ?_; (try generalize Array.size (World.heap (G.w _)) = bk); (try dsimp only [List.set_cons_zero, List.set_cons_succ]); (try clear g); intro g)
    all_goals
      (with_reducible refine (CC.out _ _ _ _ _ ?_ ?_).mono ?_)
      · exact G.sl _ (by simp) hx1
      · exact G.sl _ (by simp) hx2
      rintro e w1 ⟨rfl, hb⟩
      obtain ⟨g1, rfl⟩ := G.call_ex _ hb
      clear hb
      (try clear g)
      revert g1
      intro g
    all_goals go_wp2_with (with_reducible refine G.any_mark _ ?_; (try generalize Array.size (World.heap (G.w _)) = bk); (try dsimp only [List.set_cons_zero, List.set_cons_succ]); (try clear g); intro g)
    all_goals
      (with_reducible refine (CA.out _ _ _ _ _ ?_ ?_).mono ?_)
      · exact G.sl _ (by simp) hx1
      · exact G.sl _ (by simp) hx2
      rintro e w1 ⟨X4, x4, P4, rfl, hx4, hn4⟩
      have ho4 := New.over hn4 nilF (G.chg _).size
      obtain ⟨g1, rfl⟩ := G.new_ex _ hn4
      clear hn4
      (try clear g)
      revert g1
      intro g
    all_goals go_wp2_with (with_reducible refine G.any_mark _ ?_; (try generalize Array.size (World.heap (G.w _)) = bk); (try dsimp only [List.set_cons_zero, List.set_cons_succ]); (try clear g); intro g)
    all_goals (try (refine cmark _ ?_; (try dsimp only [List.set_cons_zero, List.set_cons_succ]); (try clear g); intro g))
    all_goals (with_reducible refine (CL.out (g.fr nilF) _ _ _ _ _ _ (g.fr_sub (by simp)) (g.fr_sl (by simp) ho4 hx4) (g.fr_sl (by simp) ho3 hx3) (G.tab g HT.out)).mono ?_)
    all_goals
      rintro e w1 ⟨Y1, y1, Q1, Y2, y2, Q2, rfl, hy1, hy2, hn1, hn2⟩
      obtain ⟨g1, rfl, hov1, hov2⟩ := G.new3_ex g hn1 hn2
      clear hn1 hn2
      (try clear g)
      revert g1
      intro g
    all_goals generalize frac _ (X - Y) D = x at *
    all_goals go_wp2_with (with_reducible refine G.any_mark _ ?_; (try generalize Array.size (World.heap (G.w _)) = bk); (try dsimp only [List.set_cons_zero, List.set_cons_succ]); (try clear g); intro g)
    all_goals refine bodyPost_ret (v := .agg #[.bool (rneg x), .slice Y1 (limbs (rn x)).length y1, .slice Y2 (limbs x.den).length y2]) (by simp [results, Tryd.results35, go_sem]) rfl ?_
    all_goals exact ⟨Y1, y1, Q1, Y2, y2, Q2, rfl, hy1, hy2, G.pass _ (by simp) (over_new hov1), G.pass _ (by simp) (over_new hov2)⟩
/-- the sum of two fractions -/
theorem fplus_any (s1 s2 : Bool) (A1 B1 A2 B2 : Option Addr) (c1 k1 c2 k2 n1 d1 n2 d2 : Nat) (w : World) (h1 : SlW w A1 c1 (limbs n1)) (j1 : SlW w B1 k1 (limbs d1)) (h2 : SlW w A2 c2 (limbs n2)) (j2 : SlW w B2 k2 (limbs d2)) (hT : Tab w)
    (l1 : (limbs n1).length ≤ 10000000) (m1 : (limbs d1).length ≤ 10000000) (l2 : (limbs n2).length ≤ 10000000) (m2 : (limbs d2).length ≤ 10000000) (z1 : d1 ≠ 0) (z2 : d2 ≠ 0) :
    Calls Tryd.prog 35 #[.agg #[.bool s1, .slice A1 (limbs n1).length c1, .slice B1 (limbs d1).length k1], .agg #[.bool s2, .slice A2 (limbs n2).length c2, .slice B2 (limbs d2).length k2]] w (RNf (frac s1 n1 d1 + frac s2 n2 d2) w) := by
  by_cases hs : s1 = s2
  · subst hs
    exact fplus_same s1 A1 B1 A2 B2 c1 k1 c2 k2 n1 d1 n2 d2 w h1 j1 h2 j2 hT l1 m1 l2 m2 z1 z2
  · by_cases hlt : n1 * d2 < n2 * d1
    · exact fplus_lt s1 s2 A1 B1 A2 B2 c1 k1 c2 k2 n1 d1 n2 d2 w h1 j1 h2 j2 hT l1 m1 l2 m2 z1 z2 hs hlt
    · exact fplus_ge s1 s2 A1 B1 A2 B2 c1 k1 c2 k2 n1 d1 n2 d2 w h1 j1 h2 j2 hT l1 m1 l2 m2 z1 z2 hs hlt
end Go.Proofs.YtjdnpkicdmapnaaDoor
