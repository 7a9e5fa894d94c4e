/- Plain facts and contracts of functions of the program, out of walks. Their conditions stand ahead of each. -/
import Derived.Test.YtjdnpkicdmapnaaGreatDoorNm3
import Derived.Test.YtjdnpkicdmapnaaGreatDoorNm18
import Derived.Test.YtjdnpkicdmapnaaGreatDoorNm25
import Derived.Test.YtjdnpkicdmapnaaGreatDoorNm33
import Derived.Below
import Derived.BigQuiet
import Derived.Deep.Draws
import Derived.Deep.LoopGhost
import Derived.Deep.QuietTactic
import Derived.Deep.RegionHeld3
import Derived.Deep.RegionLaw
import Derived.Defers
import Derived.Laws.BytesString
import Derived.Laws.Cells
import Derived.Laws.Concat
import Derived.Laws.CopyOwn
import Derived.Laws.CopyRow
import Derived.Laws.NewBlocks
import Derived.Laws.OwnMore
import Derived.Laws.Pointers
import Derived.Laws.Rows
import Derived.Lib.BitFns
import Derived.Lib.Hide
import Derived.Lib.ItoaNum
import Derived.Lib.TrailingZeros
import Derived.LoopIn
import Derived.LoopNIn
import Derived.Maps.AppendAt
import Derived.OrdersIn
import Derived.OwnWalk
import Derived.OwnWalkIn
import Derived.RangeFuncBound
import Derived.RangeFuncBox
import Derived.RangeFuncCalls
import Derived.RangeFuncLeaves
import Derived.RangeFuncNested
import Derived.RowKit3
import Derived.Shelf.Abstract
import Derived.Shelf.RegionOpen
import Derived.Shelf.Spec.TrailingZeros
import Derived.StillTactics
import Derived.StillTailTactics
import Derived.TacticsInMore
import Derived.Test.YtjdnpkicdmapnaaGreatDoorProg
import Derived.WalkKit
import Derived.WalkLawsBesides
import Derived.WalkMore
import Derived.WalkSpells
set_option linter.unusedVariables false
set_option linter.unusedSimpArgs false
set_option exponentiation.threshold 10000
namespace Go.Proofs.YtjdnpkicdmapnaaGreatDoor
open Go.RowKit GW NL
theorem bsz (l : List Nat) : (bstr l).size = l.length := by
  unfold bstr
  rw [foldl_push_bytes]
  show (ByteArray.empty.data ++ _).size = l.length
  rw [Array.size_append]
  simp
theorem dec_bsz {v : Nat} (hv : v < 2 ^ 8192) : (bstr (dec v)).size ≤ 2500 := by
  rw [bsz]
  unfold dec
  split
  · simp
  · simpa using digs_len_v hv
/-- the text of a number by its parts -/
def qtext (s : Bool) (n d : Nat) : ByteArray :=
  if d = 1 then (if s then ByteArray.mk #[45] ++ bstr (dec n) else bstr (dec n)) else (if s then ByteArray.mk #[45] ++ bstr (dec n) else bstr (dec n)) ++ ByteArray.mk #[47] ++ bstr (dec d)
set_option maxRecDepth 20000 in
set_option maxHeartbeats 1000000 in
theorem qText_x (A B : Option Addr) (c k : Nat) (x : Rat) (hx : Bd 8192 x) (w : World) (h1 : SlW w A c (limbs (rn x))) (j1 : SlW w B k (limbs x.den)) (hT : Tab w) :
    Calls Tryz.prog 25 #[.agg #[.bool (rneg x), .slice A (limbs (rn x)).length c, .slice B (limbs x.den).length k]] w fun e w' => e = .returned (.tuple #[.string (qtext (rneg x) (rn x) x.den), .int .i64 0]) ∧ Below w.heap.size w w' := by
  refine calls_b fun g => ?_
  have C1 := Lib.hid (fun w h j t => rcheck (rneg x) A B c k (limbs (rn x)) (limbs x.den) w h j t)
  rw [rchk_x hx] at C1
  have CT1 := Lib.hid (fun w h => Text_ok A c (rn x) w h hx.1)
  have CT2 := Lib.hid (fun w h => Text_ok B k x.den w h hx.2)
  have CU := Lib.hid (fun w h => lunit_any B k x.den w h)
  have b1 := dec_bsz hx.1
  have b2 := dec_bsz hx.2
  have HT := Lib.hid hT
  have H1 := Lib.hid h1
  have J1 := Lib.hid j1
  unfold qtext
  clear hx hT h1 j1
  generalize bstr (dec (rn x)) = O1 at *
  generalize bstr (dec x.den) = O2 at *
  generalize rneg x = s at *
  generalize (limbs (rn x)).length = n at *
  generalize (limbs x.den).length = d at *
  have k1 : ¬ (9223372036854775807 < 1 + O1.size) := by omega
  have k2 : ¬ (9223372036854775807 < O1.size + 1) := by omega
  have k3 : ¬ (9223372036854775807 < O1.size + 1 + O2.size) := by omega
  have k4 : ¬ (9223372036854775807 < 1 + O1.size + 1) := by omega
  have k5 : ¬ (9223372036854775807 < 1 + O1.size + 1 + O2.size) := by omega
  clear b1 b2
  by_cases hd : x.den = 1
  · rw [if_pos hd]
    rw [decide_eq_true hd] at CU
    clear hd
    cases s
    · rw [if_neg (by decide)]
      go_enter Tryz.func25, Tryz.ntmps25
      go_wp2_with (with_reducible refine G.any_mark _ ?_; (try generalize Array.size (World.heap (G.w _)) = bk); (try dsimp only [List.set_cons_zero, List.set_cons_succ]); (try clear g); intro g)
      refine (C1.out _ (G.sl g (by simp) H1.out) (G.sl g (by simp) J1.out) (G.tab g HT.out)).mono ?_
      rintro e w1 ⟨rfl, hb⟩
      obtain ⟨g1, rfl⟩ := G.call_ex _ hb
      clear hb
      (try clear g)
      revert g1
      intro g
      go_wp2_with (with_reducible refine G.any_mark _ ?_; (try generalize Array.size (World.heap (G.w _)) = bk); (try dsimp only [List.set_cons_zero, List.set_cons_succ]); (try clear g); intro g)
      refine (CT1.out _ (G.sl g (by simp) H1.out)).mono ?_
      rintro e w1 ⟨rfl, hb⟩
      obtain ⟨g1, rfl⟩ := G.call_ex _ hb
      clear hb
      (try clear g)
      revert g1
      intro g
      go_wp2_with (with_reducible refine G.any_mark _ ?_; (try generalize Array.size (World.heap (G.w _)) = bk); (try dsimp only [List.set_cons_zero, List.set_cons_succ]); (try clear g); intro g)
      refine (CU.out _ (G.sl g (by simp) J1.out)).mono ?_
      rintro e w1 ⟨rfl, rfl⟩
      go_wp2_with (with_reducible refine G.any_mark _ ?_; (try generalize Array.size (World.heap (G.w _)) = bk); (try dsimp only [List.set_cons_zero, List.set_cons_succ]); (try clear g); intro g)
      go_ret2
      exact ⟨rfl, G.below _⟩
    · rw [if_pos rfl]
      go_enter Tryz.func25, Tryz.ntmps25
      go_wp2_with (with_reducible refine G.any_mark _ ?_; (try generalize Array.size (World.heap (G.w _)) = bk); (try dsimp only [List.set_cons_zero, List.set_cons_succ]); (try clear g); intro g)
      refine (C1.out _ (G.sl g (by simp) H1.out) (G.sl g (by simp) J1.out) (G.tab g HT.out)).mono ?_
      rintro e w1 ⟨rfl, hb⟩
      obtain ⟨g1, rfl⟩ := G.call_ex _ hb
      clear hb
      (try clear g)
      revert g1
      intro g
      go_wp2_with (with_reducible refine G.any_mark _ ?_; (try generalize Array.size (World.heap (G.w _)) = bk); (try dsimp only [List.set_cons_zero, List.set_cons_succ]); (try clear g); intro g)
      refine (CT1.out _ (G.sl g (by simp) H1.out)).mono ?_
      rintro e w1 ⟨rfl, hb⟩
      obtain ⟨g1, rfl⟩ := G.call_ex _ hb
      clear hb
      (try clear g)
      revert g1
      intro g
      go_wp2_with (with_reducible refine G.any_mark _ ?_; (try generalize Array.size (World.heap (G.w _)) = bk); (try dsimp only [List.set_cons_zero, List.set_cons_succ]); (try clear g); intro g)
      refine (CU.out _ (G.sl g (by simp) J1.out)).mono ?_
      rintro e w1 ⟨rfl, rfl⟩
      go_wp2_with (with_reducible refine G.any_mark _ ?_; (try generalize Array.size (World.heap (G.w _)) = bk); (try dsimp only [List.set_cons_zero, List.set_cons_succ]); (try clear g); intro g)
      go_ret2
      exact ⟨rfl, G.below _⟩
  · rw [if_neg hd]
    rw [decide_eq_false hd] at CU
    clear hd
    cases s
    · rw [if_neg (by decide)]
      go_enter Tryz.func25, Tryz.ntmps25
      go_wp2_with (with_reducible refine G.any_mark _ ?_; (try generalize Array.size (World.heap (G.w _)) = bk); (try dsimp only [List.set_cons_zero, List.set_cons_succ]); (try clear g); intro g)
      refine (C1.out _ (G.sl g (by simp) H1.out) (G.sl g (by simp) J1.out) (G.tab g HT.out)).mono ?_
      rintro e w1 ⟨rfl, hb⟩
      obtain ⟨g1, rfl⟩ := G.call_ex _ hb
      clear hb
      (try clear g)
      revert g1
      intro g
      go_wp2_with (with_reducible refine G.any_mark _ ?_; (try generalize Array.size (World.heap (G.w _)) = bk); (try dsimp only [List.set_cons_zero, List.set_cons_succ]); (try clear g); intro g)
      refine (CT1.out _ (G.sl g (by simp) H1.out)).mono ?_
      rintro e w1 ⟨rfl, hb⟩
      obtain ⟨g1, rfl⟩ := G.call_ex _ hb
      clear hb
      (try clear g)
      revert g1
      intro g
      go_wp2_with (with_reducible refine G.any_mark _ ?_; (try generalize Array.size (World.heap (G.w _)) = bk); (try dsimp only [List.set_cons_zero, List.set_cons_succ]); (try clear g); intro g)
      refine (CU.out _ (G.sl g (by simp) J1.out)).mono ?_
      rintro e w1 ⟨rfl, rfl⟩
      go_wp2_with (with_reducible refine G.any_mark _ ?_; (try generalize Array.size (World.heap (G.w _)) = bk); (try dsimp only [List.set_cons_zero, List.set_cons_succ]); (try clear g); intro g)
      refine (CT2.out _ (G.sl g (by simp) J1.out)).mono ?_
      rintro e w1 ⟨rfl, hb⟩
      obtain ⟨g1, rfl⟩ := G.call_ex _ hb
      clear hb
      (try clear g)
      revert g1
      intro g
      go_wp2_with (with_reducible refine G.any_mark _ ?_; (try generalize Array.size (World.heap (G.w _)) = bk); (try dsimp only [List.set_cons_zero, List.set_cons_succ]); (try clear g); intro g)
      go_ret2
      exact ⟨rfl, G.below _⟩
    · rw [if_pos rfl]
      go_enter Tryz.func25, Tryz.ntmps25
      go_wp2_with (with_reducible refine G.any_mark _ ?_; (try generalize Array.size (World.heap (G.w _)) = bk); (try dsimp only [List.set_cons_zero, List.set_cons_succ]); (try clear g); intro g)
      refine (C1.out _ (G.sl g (by simp) H1.out) (G.sl g (by simp) J1.out) (G.tab g HT.out)).mono ?_
      rintro e w1 ⟨rfl, hb⟩
      obtain ⟨g1, rfl⟩ := G.call_ex _ hb
      clear hb
      (try clear g)
      revert g1
      intro g
      go_wp2_with (with_reducible refine G.any_mark _ ?_; (try generalize Array.size (World.heap (G.w _)) = bk); (try dsimp only [List.set_cons_zero, List.set_cons_succ]); (try clear g); intro g)
      refine (CT1.out _ (G.sl g (by simp) H1.out)).mono ?_
      rintro e w1 ⟨rfl, hb⟩
      obtain ⟨g1, rfl⟩ := G.call_ex _ hb
      clear hb
      (try clear g)
      revert g1
      intro g
      go_wp2_with (with_reducible refine G.any_mark _ ?_; (try generalize Array.size (World.heap (G.w _)) = bk); (try dsimp only [List.set_cons_zero, List.set_cons_succ]); (try clear g); intro g)
      refine (CU.out _ (G.sl g (by simp) J1.out)).mono ?_
      rintro e w1 ⟨rfl, rfl⟩
      go_wp2_with (with_reducible refine G.any_mark _ ?_; (try generalize Array.size (World.heap (G.w _)) = bk); (try dsimp only [List.set_cons_zero, List.set_cons_succ]); (try clear g); intro g)
      refine (CT2.out _ (G.sl g (by simp) J1.out)).mono ?_
      rintro e w1 ⟨rfl, hb⟩
      obtain ⟨g1, rfl⟩ := G.call_ex _ hb
      clear hb
      (try clear g)
      revert g1
      intro g
      go_wp2_with (with_reducible refine G.any_mark _ ?_; (try generalize Array.size (World.heap (G.w _)) = bk); (try dsimp only [List.set_cons_zero, List.set_cons_succ]); (try clear g); intro g)
      go_ret2
      exact ⟨rfl, G.below _⟩
end Go.Proofs.YtjdnpkicdmapnaaGreatDoor
namespace Go.Proofs.YtjdnpkicdmapnaaGreatDoor
open Go.RowKit GW NL
theorem lsame_x (A1 B1 A2 B2 : Option Addr) (c1 k1 c2 k2 : Nat) (x : Rat) (w : World) (h1 : SlW w A1 c1 (limbs (rn x))) (j1 : SlW w B1 k1 (limbs x.den)) (h2 : SlW w A2 c2 (limbs (rn x))) (j2 : SlW w B2 k2 (limbs x.den)) :
    Calls Tryz.prog 24 #[.agg #[.bool (rneg x), .slice A1 (limbs (rn x)).length c1, .slice B1 (limbs x.den).length k1], .agg #[.bool (rneg x), .slice A2 (limbs (rn x)).length c2, .slice B2 (limbs x.den).length k2]] w fun e w' => e = .returned (.bool true) ∧ Below w.heap.size w w' := by
  refine calls_b fun g => ?_
  have C1 := Lib.hid (fun w h1 h2 => same_any A1 A2 c1 c2 (limbs (rn x)) w h1 h2)
  have C2 := Lib.hid (fun w h1 h2 => same_any B1 B2 k1 k2 (limbs x.den) w h1 h2)
  have H1 := Lib.hid h1
  have H2 := Lib.hid h2
  have J1 := Lib.hid j1
  have J2 := Lib.hid j2
  clear h1 h2 j1 j2
  generalize rneg x = s at *
  generalize (limbs (rn x)).length = n at *
  generalize (limbs x.den).length = d at *
  go_enter Tryz.func24, Tryz.ntmps24
  go_wp2_with (with_reducible refine G.any_mark _ ?_; (try generalize Array.size (World.heap (G.w _)) = bk); (try dsimp only [List.set_cons_zero, List.set_cons_succ]); (try clear g); intro g)
  refine (C1.out _ (G.sl g (by simp) H1.out) (G.sl g (by simp) H2.out)).mono ?_
  rintro e w1 ⟨rfl, hb⟩
  obtain ⟨g1, rfl⟩ := G.call_ex _ hb
  clear hb
  (try clear g)
  revert g1
  intro g
  go_wp2_with (with_reducible refine G.any_mark _ ?_; (try generalize Array.size (World.heap (G.w _)) = bk); (try dsimp only [List.set_cons_zero, List.set_cons_succ]); (try clear g); intro g)
  refine (C2.out _ (G.sl g (by simp) J1.out) (G.sl g (by simp) J2.out)).mono ?_
  rintro e w1 ⟨rfl, hb⟩
  obtain ⟨g1, rfl⟩ := G.call_ex _ hb
  clear hb
  (try clear g)
  revert g1
  intro g
  go_wp2_with (with_reducible refine G.any_mark _ ?_; (try generalize Array.size (World.heap (G.w _)) = bk); (try dsimp only [List.set_cons_zero, List.set_cons_succ]); (try clear g); intro g)
  go_ret
  exact ⟨rfl, G.below _⟩
/-- a fraction of ints: the parts that the reference gives -/
theorem lof_x (a b : Int) (z : Rat) (hb : b ≠ 0) (e : frac (decide (a < 0) != decide (b < 0)) a.natAbs b.natAbs = z) (h1 : -9223372036854775808 ≤ a) (h2 : a < 9223372036854775808) (h3 : -9223372036854775808 ≤ b) (h4 : b < 9223372036854775808) (w : World) :
    Calls Tryz.prog 31 #[.int .i64 a, .int .i64 b] w (RNf z w) := by
  refine calls_b fun g => ?_
  have C1 := Lib.hid (fun w => rOf_any a b h1 h2 h3 h4 w)
  unfold ofY at C1
  rw [if_neg hb, e] at C1
  unfold RPE at C1
  unfold RNf
  dsimp only at C1
  clear e hb h1 h2 h3 h4
  generalize rneg z = s at *
  generalize hN : (limbs (rn z)).length = n at *
  generalize hD : (limbs z.den).length = d at *
  clear hN hD
  go_enter Tryz.func31, Tryz.ntmps31
  go_wp2_with (with_reducible refine G.any_mark _ ?_; (try generalize Array.size (World.heap (G.w _)) = bk); (try dsimp only [List.set_cons_zero, List.set_cons_succ]); (try clear g); intro g)
  refine (C1.out _).mono ?_
  rintro e w1 ⟨Aq, cq, Fq, Bq, dq, Hq, rfl, hsq, htq, hn, hm⟩
  have hnnq := fun k o hk => Nat.le_trans g.chg.size (hn.new k o hk)
  have hmmq := fun k o hk => Nat.le_trans g.chg.size (hm.new k o hk)
  obtain ⟨g1, rfl⟩ := G.new2_ex _ hn hm
  clear hn hm
  (try clear g)
  revert g1
  intro g
  go_wp2_with (with_reducible refine G.any_mark _ ?_; (try generalize Array.size (World.heap (G.w _)) = bk); (try dsimp only [List.set_cons_zero, List.set_cons_succ]); (try clear g); intro g)
  refine bodyPost_ret (v := .agg #[.bool s, .slice Aq n cq, .slice Bq d dq]) (by simp [results, Tryz.results31, go_sem]) rfl ?_
  exact ⟨Aq, cq, Fq, Bq, dq, Hq, rfl, hsq, htq, G.pass _ (by simp) hnnq, G.pass _ (by simp) hmmq⟩
set_option maxHeartbeats 1000000 in
theorem lis_x (A1 B1 : Option Addr) (c1 k1 : Nat) (a b : Int) (x : Rat) (hb : b ≠ 0) (e : frac (decide (a < 0) != decide (b < 0)) a.natAbs b.natAbs = x) (b1 : -9223372036854775808 ≤ a) (b2 : a < 9223372036854775808) (b3 : -9223372036854775808 ≤ b) (b4 : b < 9223372036854775808) (w : World) (h1 : SlW w A1 c1 (limbs (rn x))) (j1 : SlW w B1 k1 (limbs x.den)) :
    Calls Tryz.prog 33 #[.agg #[.bool (rneg x), .slice A1 (limbs (rn x)).length c1, .slice B1 (limbs x.den).length k1], .int .i64 0, .int .i64 a, .int .i64 b] w fun e w' => e = .returned (.bool true) ∧ Below w.heap.size w w' := by
  refine calls_b fun g => ?_
  have CO := Lib.hid (fun w => lof_x a b x hb e b1 b2 b3 b4 w)
  have CS := Lib.hid (fun A B c k w h1 j1 h2 j2 => lsame_x A1 B1 A B c1 k1 c k x w h1 j1 h2 j2)
  have H1 := Lib.hid h1
  have J1 := Lib.hid j1
  unfold RNf at CO
  clear h1 j1 e hb b1 b2 b3 b4
  generalize rneg x = s at *
  generalize hN : (limbs (rn x)).length = n at *
  generalize hD : (limbs x.den).length = d at *
  clear hN hD
  go_enter Tryz.func33, Tryz.ntmps33
  go_wp2_with (with_reducible refine G.any_mark _ ?_; (try generalize Array.size (World.heap (G.w _)) = bk); (try dsimp only [List.set_cons_zero, List.set_cons_succ]); (try clear g); intro g)
  go_region_held3 (G.heldN g [true]) (simp [G.heldN, HeldN, go_sem]) (first
      | (go_at_call 31; (with_reducible refine (CO.out _).mono ?_); rintro e w1 ⟨Aq, cq, Fq, Bq, dq, Hq, rfl, hsq, htq, hnq, hmq⟩; obtain ⟨g1, rfl⟩ := G.new2_ex _ hnq hmq; clear hnq hmq; (try clear g); revert g1; intro g)
      | (go_at_call 24; (with_reducible refine (CS.out _ _ _ _ _ ?_ ?_ ?_ ?_).mono ?_); (· exact G.sl _ (by simp) H1.out); (· exact G.sl _ (by simp) J1.out); (· exact G.sl _ (by simp) hsq); (· exact G.sl _ (by simp) htq); rintro e w1 ⟨rfl, hb⟩; obtain ⟨g1, rfl⟩ := G.call_ex _ hb; clear hb; (try clear g); revert g1; intro g))
  all_goals (first | ((try simp only [G.drew_eq, G.drewN_eq]); (refine G.any_mark _ ?_; (try generalize Array.size (World.heap (G.w _)) = bk); (try dsimp only [List.set_cons_zero, List.set_cons_succ]); (try clear g); intro g)) | skip)
  all_goals go_wp2_with (with_reducible refine G.any_mark _ ?_; (try generalize Array.size (World.heap (G.w _)) = bk); (try dsimp only [List.set_cons_zero, List.set_cons_succ]); (try clear g); intro g)
  all_goals
    go_ret
    exact ⟨rfl, G.below _⟩
end Go.Proofs.YtjdnpkicdmapnaaGreatDoor
namespace Go.Proofs.YtjdnpkicdmapnaaGreatDoor
open Go.RowKit GW NL
theorem rLow_lit (s : Bool) (A1 A2 : Option Addr) (c1 c2 n d n1 n2 : Nat) (w : World) (h1 : SlW w A1 c1 (limbs n)) (h2 : SlW w A2 c2 (limbs d)) (e1 : (limbs n).length = n1) (e2 : (limbs d).length = n2) (hl1 : n1 ≤ 10000000) (hl2 : n2 ≤ 10000000) (hd : d ≠ 0) :
    Calls Tryz.prog 74 #[.bool s, .slice A1 n1 c1, .slice A2 n2 c2] w (RNf (frac s n d) w) := by
  subst e1; subst e2
  exact rLow_any s A1 A2 c1 c2 n d w h1 h2 hl1 hl2 hd
set_option maxRecDepth 20000 in
set_option maxHeartbeats 4000000 in
theorem lvalid_x (A : Option Addr) (c : Nat) (l : List Nat) (s : Bool) (w : World) (h : SlW w A c l) :
    Calls Tryz.prog 29 #[.slice A l.length c, .bool s] w (RNf (vq s l) w) := by
  refine calls_b fun g => ?_
  have hml := h.len
  have hok := h.ok
  obtain ⟨n, hn⟩ : ∃ n, l.length = n := ⟨_, rfl⟩
  obtain ⟨m, hm⟩ : ∃ m, min n 16 = m := ⟨_, rfl⟩
  have CL : Hid (∀ (A1 : Option Addr) (c1 cy b n1 n2 : Nat) (w : World), SlW w A1 c1 (limbs (val (evl l m))) → SlW w (some ⟨b, 0, none⟩) cy (limbs (val (odl l m ++ [1]))) → (limbs (val (evl l m))).length = n1 → (limbs (val (odl l m ++ [1]))).length = n2 → n1 ≤ 10000000 → n2 ≤ 10000000 → Calls Tryz.prog 74 #[.bool s, .slice A1 n1 c1, .slice (some ⟨b, 0, none⟩) n2 cy] w (RNf (vq s l) w)) :=
    Lib.hid (by
      intro A1 c1 cy b n1 n2 w h1 h2 e1 e2 l1 l2
      unfold vq
      rw [hn, hm]
      exact rLow_lit s A1 (some ⟨b, 0, none⟩) c1 cy _ _ n1 n2 w h1 h2 e1 e2 l1 l2 (val_one _))
  unfold RNf at CL
  unfold RNf
  generalize vq s l = z at *
  generalize rneg z = sz at *
  generalize hNz : (limbs (rn z)).length = nz at *
  generalize hDz : (limbs z.den).length = dz at *
  clear hNz hDz
  obtain ⟨i0, hi, hz0, hz1, hz2⟩ := info_parts infoU32
  have H := Lib.hid h
  have HN := Lib.hid hn
  have HOK := Lib.hid hok
  rw [hn] at hml ⊢
  have m1 : m ≤ n := by omega
  have m2 : m ≤ 16 := by omega
  have m3 : m = n ∨ (m < n ∧ m = 16) := by omega
  clear hn h hok hm
  go_enter Tryz.func29, Tryz.ntmps29
  go_wp2_with (with_reducible refine G.any_mark _ ?_; (try generalize Array.size (World.heap (G.w _)) = bk); (try dsimp only [List.set_cons_zero, List.set_cons_succ]); (try clear g); intro g)
  obtain ⟨rb, hrb⟩ : ∃ rb : Nat, rb = bk := ⟨_, rfl⟩
  subst hrb
  go_loopw [5, 6, 7] (fun x y i wr => ∃ k : Nat, k ≤ m ∧ i = .int .i64 (k : Int) ∧
      ((k = 0 ∧ x = .slice none 0 0 ∧ y = .slice none 0 0 ∧ ∃ g : G w [] [(rb, 25, [.bool false, .slice none 0 0, .slice none 0 0])] [heapOf w], wr = g.w) ∨
       (k = 1 ∧ ∃ bx cx csx, x = .slice (some ⟨bx, 0, none⟩) 1 cx ∧ y = .slice none 0 0 ∧ Row 29 1 1 (u32s (evl l 1)) cx csx ∧ ∃ g : G w [] [(bx, 29, csx), (rb, 25, [.bool false, .slice none 0 0, .slice none 0 0])] [heapOf w], wr = g.w) ∨
       (2 ≤ k ∧ ∃ bx cx csx b2 cy csy, x = .slice (some ⟨bx, 0, none⟩) ((k + 1) / 2) cx ∧ y = .slice (some ⟨b2, 0, none⟩) (k / 2) cy ∧ Row 29 1 ((k + 1) / 2) (u32s (evl l k)) cx csx ∧ Row 29 1 (k / 2) (u32s (odl l k)) cy csy ∧ ∃ g : G w [] [(bx, 29, csx), (b2, 29, csy), (rb, 25, [.bool false, .slice none 0 0, .slice none 0 0])] [heapOf w], wr = g.w)))
    (fun _ _ i _ => m - (intOf i).toNat)
  case atStart => exact ⟨0, by omega, rfl, .inl ⟨rfl, rfl, rfl, g, rfl⟩⟩
  case round =>
    clear g
    obtain ⟨k, hk, rfl, hc⟩ := hrel
    by_cases hkm : k = m
    · subst hkm
      have hst : (∃ (A1 : Option Addr) (cx : Nat) (F : Frag), u5 = .slice A1 ((k + 1) / 2) cx ∧ u6 = .slice none 0 0 ∧ F.Sl A1 cx (evl l k) ∧ odl l k = [] ∧ ∃ g : G w [] [(rb, 25, [.bool false, .slice none 0 0, .slice none 0 0])] [F, heapOf w], wr = g.w) ∨ (∃ (A1 : Option Addr) (cx : Nat) (F : Frag) (b2 cy : Nat) (csy : List Value), u5 = .slice A1 ((k + 1) / 2) cx ∧ u6 = .slice (some ⟨b2, 0, none⟩) (k / 2) cy ∧ F.Sl A1 cx (evl l k) ∧ Row 29 1 (k / 2) (u32s (odl l k)) cy csy ∧ ∃ g : G w [] [(b2, 29, csy), (rb, 25, [.bool false, .slice none 0 0, .slice none 0 0])] [F, heapOf w], wr = g.w) := by
        rcases hc with ⟨rfl, rfl, rfl, g, rfl⟩ | ⟨rfl, bx, cx, csx, rfl, rfl, hr, g, rfl⟩ | ⟨hk2, bx, cx, csx, b2, cy, csy, rfl, rfl, hrx, hry, g, rfl⟩
        · obtain ⟨g2, hg2⟩ := G.lessI g (I' := [heapOf w, heapOf w]) (by simp)
          exact .inl ⟨none, 0, heapOf w, rfl, rfl, Frag.Sl.nil _ _, rfl, g2, hg2⟩
        · obtain ⟨g2, hg2⟩ := g.frz (g.fresh (List.mem_cons_self ..))
          exact .inl ⟨_, cx, _, rfl, rfl, sl_row hr (by rw [evl_len]) (by decide) (evl_ok HOK.out 1), rfl, g2, hg2⟩
        · obtain ⟨g2, hg2⟩ := g.frz (g.fresh (List.mem_cons_self ..))
          exact .inr ⟨_, cx, _, b2, cy, csy, rfl, rfl, sl_row hrx (by rw [evl_len]) (by omega) (evl_ok HOK.out k), hry, g2, hg2⟩
      clear hc
      obtain ⟨e, he⟩ : ∃ e, (k + 1) / 2 = e := ⟨_, rfl⟩
      have hel := evl_len l k
      have heo := evl_ok HOK.out k
      have he9 : e ≤ 10 := by omega
      rw [he] at hst hel
      have hol : (odl l k).length ≤ 10 := by rw [odl_len]; omega
      have hlw1 := limbs_with_one (odl_ok HOK.out k)
      have hoo := odl_ok HOK.out k
      have hol2 := odl_len l k
      clear he
      obtain ⟨q, hq⟩ : ∃ q, k / 2 = q := ⟨_, rfl⟩
      have hq9 : q ≤ 8 := by omega
      rw [hq] at hst hol2
      clear hq
      obtain ⟨E, hE⟩ : ∃ E, evl l k = E := ⟨_, rfl⟩
      obtain ⟨O, hO⟩ : ∃ O, odl l k = O := ⟨_, rfl⟩
      rw [hE] at CL hel heo hst
      rw [hO] at CL hol hlw1 hst hoo hol2
      have HW1 := Lib.hid hlw1
      have HEO := Lib.hid heo
      have HEL := Lib.hid hel
      have HOO := Lib.hid hoo
      have HOL := Lib.hid hol2
      clear hE hO hlw1 heo hel hoo hol2
      rcases hst with ⟨A1, cx, F, rfl, rfl, hF, hod, g, rfl⟩ | ⟨A1, cx, F, b2, cy, csy, rfl, rfl, hF, hry, g, rfl⟩
      · have HFE := Lib.hid hF
        clear hF
        rcases m3 with h3 | ⟨h3, h4⟩
        · have q1 : ¬ ((k : Int) < (n : Int)) := by omega
          go_wp2_with (with_reducible refine G.any_mark _ ?_; (try generalize Array.size (World.heap (G.w _)) = bk); (try dsimp only [List.set_cons_zero, List.set_cons_succ]); (try clear g); intro g)
          go_loopg [5] e (fun gk s5 wr => gk ≤ e ∧ s5 = .slice A1 gk cx ∧ Hid (val (E.take gk) = val E) ∧ ∃ g : G w [] [(rb, 25, [.bool false, .slice none 0 0, .slice none 0 0])] [F, heapOf w], wr = g.w)
          case atStart => exact ⟨Nat.le_refl _, rfl, Lib.hid (by rw [List.take_of_length_le (by rw [HEL.out]; exact Nat.le_refl _)]), g, rfl⟩
          case round =>
            clear g
            obtain ⟨hj, rfl, HVJ, g, rfl⟩ := hrel
            have HF : Hid (F.Sl A1 cx (limbs (val E))) := Lib.hid (sl_trim HFE.out)
            rcases Nat.eq_zero_or_pos gk with h0 | hj0
            · subst h0
              have hn0 : (limbs (val E)).length = 0 := by
                rw [← HVJ.out, List.take_zero]; exact limbs_len0
              have HLE := Lib.hid hn0
              clear hn0
              have H1 : ∀ u ∈ [Value.int .u32 1], u.oneCell' = true := by intro u hu; rw [List.mem_singleton.1 hu]; rfl
              go_wp2_with (first | (with_reducible refine G.any_mark _ ?_; (try generalize Array.size (World.heap (G.w _)) = bk); (try dsimp only [List.set_cons_zero, List.set_cons_succ]); (try clear g); intro g) | (at_builtin; refine wpList_append_lit0 rfl _ _ 23 rfl 29 i0 _ 1 4 Tryz.underlying23 hi hz0 hz1 hz2 rfl (by decide) g rfl 1 rfl rfl H1 (by decide) (by decide) (by decide) ?_; clear g; intro b' cap cs g hb hrow))
              have HRW : Hid (Row 29 1 (O ++ [1]).length (u32s (O ++ [1])) cap cs) := Lib.hid (by rw [hod]; exact hrow)
              have HLN : Hid ((limbs (val (O ++ [1]))).length = 1) := Lib.hid (by rw [HW1.out, hod]; rfl)
              have HSR : Hid (SlW g.w (some ⟨b', 0, none⟩) cap (limbs (val (O ++ [1])))) := Lib.hid (by rw [HW1.out]; exact (sl_row HRW.out rfl (by rw [List.length_append, List.length_singleton]; omega) (HOO.out.append (Ok.cons (by decide) Ok.nil))).at (blkF_sub g.blk0))
              refine (CL.out _ _ _ _ _ _ _ (G.sl g (by simp) HF.out) HSR.out HLE.out HLN.out (by omega) (by omega)).mono ?_
              rintro e w1 ⟨Aq, cq, Fq, Bq, dq, Hq, rfl, hsq, htq, hn, hm⟩
              clear HSR HRW
              have hnnq := fun k o hk => Nat.le_trans g.chg.size (hn.new k o hk)
              have hmmq := fun k o hk => Nat.le_trans g.chg.size (hm.new k o hk)
              obtain ⟨g1, rfl⟩ := G.new2_ex _ hn hm
              clear hn hm
              (try clear g)
              revert g1
              intro g
              go_wp2_with (with_reducible refine G.any_mark _ ?_; (try generalize Array.size (World.heap (G.w _)) = bk); (try dsimp only [List.set_cons_zero, List.set_cons_succ]); (try clear g); intro g)
              refine bodyPost_ret (v := .agg #[.bool sz, .slice Aq nz cq, .slice Bq dz dq]) (by simp [results, Tryz.results29, go_sem]) rfl ?_
              exact ⟨Aq, cq, Fq, Bq, dq, Hq, rfl, hsq, htq, G.pass _ (by simp) hnnq, G.pass _ (by simp) hmmq⟩
            · obtain ⟨bE, oE, rfl, hce⟩ := G.cell_of g (show F ∈ [F, heapOf w] by simp) HFE.out.lim (by rw [HEL.out]; omega)
              have e1 := hce (gk - 1) (by rw [HEL.out]; omega)
              clear hce
              have hji : ((gk - 1 : Nat) : Int) = (gk : Int) - 1 := by omega
              have hj1 : (0 : Int) ≤ (gk : Int) - 1 := by omega
              have hj2 : (gk : Int) - 1 < (gk : Int) := by omega
              have hj3 : (0 : Int) < (gk : Int) := by omega
              have hgc : gk ≤ cx := by have := HFE.out.1; rw [HEL.out] at this; omega
              by_cases hx : E.getD (gk - 1) 0 = 0
              · have hv' : val (E.take (gk - 1)) = val E := by
                  rw [← HVJ.out]
                  have := val_take_getD E (gk - 1)
                  rw [show gk - 1 + 1 = gk by omega, hx] at this
                  omega
                have HV' := Lib.hid hv'
                have hx1 : (((E.getD (gk - 1) 0 : Nat) : Int) == 0) = true := by simp only [hx]; rfl
                clear hv' hx
                generalize ((E.getD (gk - 1) 0 : Nat) : Int) = v at *
                go_wp2_with (with_reducible refine G.any_mark _ ?_; (try generalize Array.size (World.heap (G.w _)) = bk); (try dsimp only [List.set_cons_zero, List.set_cons_succ]); (try clear g); intro g)
                go_roundg (gk - 1)
                case measure => omega
                case rel => exact ⟨by omega, rfl, HV', g, rfl⟩
              · have hlen : (limbs (val E)).length = gk := by
                  have hl : (E.take gk).length = gk := by rw [List.length_take, HEL.out]; omega
                  have t : Trim (E.take gk) := by
                    intro j hj
                    rw [hl] at hj
                    rw [getD_take (by omega), show j = gk - 1 by omega]
                    exact hx
                  rw [← HVJ.out, limbs_val (HEO.out.take gk) t, hl]
                have HLE := Lib.hid hlen
                have hx1 : (((E.getD (gk - 1) 0 : Nat) : Int) == 0) = false := by simp only [beq_eq_false_iff_ne, ne_eq]; omega
                clear hlen hx
                generalize ((E.getD (gk - 1) 0 : Nat) : Int) = v at *
                have H1 : ∀ u ∈ [Value.int .u32 1], u.oneCell' = true := by intro u hu; rw [List.mem_singleton.1 hu]; rfl
                go_wp2_with (first | (with_reducible refine G.any_mark _ ?_; (try generalize Array.size (World.heap (G.w _)) = bk); (try dsimp only [List.set_cons_zero, List.set_cons_succ]); (try clear g); intro g) | (at_builtin; refine wpList_append_lit0 rfl _ _ 23 rfl 29 i0 _ 1 4 Tryz.underlying23 hi hz0 hz1 hz2 rfl (by decide) g rfl 1 rfl rfl H1 (by decide) (by decide) (by decide) ?_; clear g; intro b' cap cs g hb hrow))
                have HRW : Hid (Row 29 1 (O ++ [1]).length (u32s (O ++ [1])) cap cs) := Lib.hid (by rw [hod]; exact hrow)
                have HLN : Hid ((limbs (val (O ++ [1]))).length = 1) := Lib.hid (by rw [HW1.out, hod]; rfl)
                have HSR : Hid (SlW g.w (some ⟨b', 0, none⟩) cap (limbs (val (O ++ [1])))) := Lib.hid (by rw [HW1.out]; exact (sl_row HRW.out rfl (by rw [List.length_append, List.length_singleton]; omega) (HOO.out.append (Ok.cons (by decide) Ok.nil))).at (blkF_sub g.blk0))
                refine (CL.out _ _ _ _ _ _ _ (G.sl g (by simp) HF.out) HSR.out HLE.out HLN.out (by omega) (by omega)).mono ?_
                rintro e w1 ⟨Aq, cq, Fq, Bq, dq, Hq, rfl, hsq, htq, hn, hm⟩
                clear HSR HRW
                have hnnq := fun k o hk => Nat.le_trans g.chg.size (hn.new k o hk)
                have hmmq := fun k o hk => Nat.le_trans g.chg.size (hm.new k o hk)
                obtain ⟨g1, rfl⟩ := G.new2_ex _ hn hm
                clear hn hm
                (try clear g)
                revert g1
                intro g
                go_wp2_with (with_reducible refine G.any_mark _ ?_; (try generalize Array.size (World.heap (G.w _)) = bk); (try dsimp only [List.set_cons_zero, List.set_cons_succ]); (try clear g); intro g)
                refine bodyPost_ret (v := .agg #[.bool sz, .slice Aq nz cq, .slice Bq dz dq]) (by simp [results, Tryz.results29, go_sem]) rfl ?_
                exact ⟨Aq, cq, Fq, Bq, dq, Hq, rfl, hsq, htq, G.pass _ (by simp) hnnq, G.pass _ (by simp) hmmq⟩
        · have q1 : (k : Int) < (n : Int) := by omega
          have q2 : ¬ ((k : Int) < 16) := by omega
          go_wp2_with (with_reducible refine G.any_mark _ ?_; (try generalize Array.size (World.heap (G.w _)) = bk); (try dsimp only [List.set_cons_zero, List.set_cons_succ]); (try clear g); intro g)
          go_loopg [5] e (fun gk s5 wr => gk ≤ e ∧ s5 = .slice A1 gk cx ∧ Hid (val (E.take gk) = val E) ∧ ∃ g : G w [] [(rb, 25, [.bool false, .slice none 0 0, .slice none 0 0])] [F, heapOf w], wr = g.w)
          case atStart => exact ⟨Nat.le_refl _, rfl, Lib.hid (by rw [List.take_of_length_le (by rw [HEL.out]; exact Nat.le_refl _)]), g, rfl⟩
          case round =>
            clear g
            obtain ⟨hj, rfl, HVJ, g, rfl⟩ := hrel
            have HF : Hid (F.Sl A1 cx (limbs (val E))) := Lib.hid (sl_trim HFE.out)
            rcases Nat.eq_zero_or_pos gk with h0 | hj0
            · subst h0
              have hn0 : (limbs (val E)).length = 0 := by
                rw [← HVJ.out, List.take_zero]; exact limbs_len0
              have HLE := Lib.hid hn0
              clear hn0
              have H1 : ∀ u ∈ [Value.int .u32 1], u.oneCell' = true := by intro u hu; rw [List.mem_singleton.1 hu]; rfl
              go_wp2_with (first | (with_reducible refine G.any_mark _ ?_; (try generalize Array.size (World.heap (G.w _)) = bk); (try dsimp only [List.set_cons_zero, List.set_cons_succ]); (try clear g); intro g) | (at_builtin; refine wpList_append_lit0 rfl _ _ 23 rfl 29 i0 _ 1 4 Tryz.underlying23 hi hz0 hz1 hz2 rfl (by decide) g rfl 1 rfl rfl H1 (by decide) (by decide) (by decide) ?_; clear g; intro b' cap cs g hb hrow))
              have HRW : Hid (Row 29 1 (O ++ [1]).length (u32s (O ++ [1])) cap cs) := Lib.hid (by rw [hod]; exact hrow)
              have HLN : Hid ((limbs (val (O ++ [1]))).length = 1) := Lib.hid (by rw [HW1.out, hod]; rfl)
              have HSR : Hid (SlW g.w (some ⟨b', 0, none⟩) cap (limbs (val (O ++ [1])))) := Lib.hid (by rw [HW1.out]; exact (sl_row HRW.out rfl (by rw [List.length_append, List.length_singleton]; omega) (HOO.out.append (Ok.cons (by decide) Ok.nil))).at (blkF_sub g.blk0))
              refine (CL.out _ _ _ _ _ _ _ (G.sl g (by simp) HF.out) HSR.out HLE.out HLN.out (by omega) (by omega)).mono ?_
              rintro e w1 ⟨Aq, cq, Fq, Bq, dq, Hq, rfl, hsq, htq, hn, hm⟩
              clear HSR HRW
              have hnnq := fun k o hk => Nat.le_trans g.chg.size (hn.new k o hk)
              have hmmq := fun k o hk => Nat.le_trans g.chg.size (hm.new k o hk)
              obtain ⟨g1, rfl⟩ := G.new2_ex _ hn hm
              clear hn hm
              (try clear g)
              revert g1
              intro g
              go_wp2_with (with_reducible refine G.any_mark _ ?_; (try generalize Array.size (World.heap (G.w _)) = bk); (try dsimp only [List.set_cons_zero, List.set_cons_succ]); (try clear g); intro g)
              refine bodyPost_ret (v := .agg #[.bool sz, .slice Aq nz cq, .slice Bq dz dq]) (by simp [results, Tryz.results29, go_sem]) rfl ?_
              exact ⟨Aq, cq, Fq, Bq, dq, Hq, rfl, hsq, htq, G.pass _ (by simp) hnnq, G.pass _ (by simp) hmmq⟩
            · obtain ⟨bE, oE, rfl, hce⟩ := G.cell_of g (show F ∈ [F, heapOf w] by simp) HFE.out.lim (by rw [HEL.out]; omega)
              have e1 := hce (gk - 1) (by rw [HEL.out]; omega)
              clear hce
              have hji : ((gk - 1 : Nat) : Int) = (gk : Int) - 1 := by omega
              have hj1 : (0 : Int) ≤ (gk : Int) - 1 := by omega
              have hj2 : (gk : Int) - 1 < (gk : Int) := by omega
              have hj3 : (0 : Int) < (gk : Int) := by omega
              have hgc : gk ≤ cx := by have := HFE.out.1; rw [HEL.out] at this; omega
              by_cases hx : E.getD (gk - 1) 0 = 0
              · have hv' : val (E.take (gk - 1)) = val E := by
                  rw [← HVJ.out]
                  have := val_take_getD E (gk - 1)
                  rw [show gk - 1 + 1 = gk by omega, hx] at this
                  omega
                have HV' := Lib.hid hv'
                have hx1 : (((E.getD (gk - 1) 0 : Nat) : Int) == 0) = true := by simp only [hx]; rfl
                clear hv' hx
                generalize ((E.getD (gk - 1) 0 : Nat) : Int) = v at *
                go_wp2_with (with_reducible refine G.any_mark _ ?_; (try generalize Array.size (World.heap (G.w _)) = bk); (try dsimp only [List.set_cons_zero, List.set_cons_succ]); (try clear g); intro g)
                go_roundg (gk - 1)
                case measure => omega
                case rel => exact ⟨by omega, rfl, HV', g, rfl⟩
              · have hlen : (limbs (val E)).length = gk := by
                  have hl : (E.take gk).length = gk := by rw [List.length_take, HEL.out]; omega
                  have t : Trim (E.take gk) := by
                    intro j hj
                    rw [hl] at hj
                    rw [getD_take (by omega), show j = gk - 1 by omega]
                    exact hx
                  rw [← HVJ.out, limbs_val (HEO.out.take gk) t, hl]
                have HLE := Lib.hid hlen
                have hx1 : (((E.getD (gk - 1) 0 : Nat) : Int) == 0) = false := by simp only [beq_eq_false_iff_ne, ne_eq]; omega
                clear hlen hx
                generalize ((E.getD (gk - 1) 0 : Nat) : Int) = v at *
                have H1 : ∀ u ∈ [Value.int .u32 1], u.oneCell' = true := by intro u hu; rw [List.mem_singleton.1 hu]; rfl
                go_wp2_with (first | (with_reducible refine G.any_mark _ ?_; (try generalize Array.size (World.heap (G.w _)) = bk); (try dsimp only [List.set_cons_zero, List.set_cons_succ]); (try clear g); intro g) | (at_builtin; refine wpList_append_lit0 rfl _ _ 23 rfl 29 i0 _ 1 4 Tryz.underlying23 hi hz0 hz1 hz2 rfl (by decide) g rfl 1 rfl rfl H1 (by decide) (by decide) (by decide) ?_; clear g; intro b' cap cs g hb hrow))
                have HRW : Hid (Row 29 1 (O ++ [1]).length (u32s (O ++ [1])) cap cs) := Lib.hid (by rw [hod]; exact hrow)
                have HLN : Hid ((limbs (val (O ++ [1]))).length = 1) := Lib.hid (by rw [HW1.out, hod]; rfl)
                have HSR : Hid (SlW g.w (some ⟨b', 0, none⟩) cap (limbs (val (O ++ [1])))) := Lib.hid (by rw [HW1.out]; exact (sl_row HRW.out rfl (by rw [List.length_append, List.length_singleton]; omega) (HOO.out.append (Ok.cons (by decide) Ok.nil))).at (blkF_sub g.blk0))
                refine (CL.out _ _ _ _ _ _ _ (G.sl g (by simp) HF.out) HSR.out HLE.out HLN.out (by omega) (by omega)).mono ?_
                rintro e w1 ⟨Aq, cq, Fq, Bq, dq, Hq, rfl, hsq, htq, hn, hm⟩
                clear HSR HRW
                have hnnq := fun k o hk => Nat.le_trans g.chg.size (hn.new k o hk)
                have hmmq := fun k o hk => Nat.le_trans g.chg.size (hm.new k o hk)
                obtain ⟨g1, rfl⟩ := G.new2_ex _ hn hm
                clear hn hm
                (try clear g)
                revert g1
                intro g
                go_wp2_with (with_reducible refine G.any_mark _ ?_; (try generalize Array.size (World.heap (G.w _)) = bk); (try dsimp only [List.set_cons_zero, List.set_cons_succ]); (try clear g); intro g)
                refine bodyPost_ret (v := .agg #[.bool sz, .slice Aq nz cq, .slice Bq dz dq]) (by simp [results, Tryz.results29, go_sem]) rfl ?_
                exact ⟨Aq, cq, Fq, Bq, dq, Hq, rfl, hsq, htq, G.pass _ (by simp) hnnq, G.pass _ (by simp) hmmq⟩
      · have HFE := Lib.hid hF
        clear hF
        rcases m3 with h3 | ⟨h3, h4⟩
        · have q1 : ¬ ((k : Int) < (n : Int)) := by omega
          go_wp2_with (with_reducible refine G.any_mark _ ?_; (try generalize Array.size (World.heap (G.w _)) = bk); (try dsimp only [List.set_cons_zero, List.set_cons_succ]); (try clear g); intro g)
          go_loopg [5] e (fun gk s5 wr => gk ≤ e ∧ s5 = .slice A1 gk cx ∧ Hid (val (E.take gk) = val E) ∧ ∃ g : G w [] [(b2, 29, csy), (rb, 25, [.bool false, .slice none 0 0, .slice none 0 0])] [F, heapOf w], wr = g.w)
          case atStart => exact ⟨Nat.le_refl _, rfl, Lib.hid (by rw [List.take_of_length_le (by rw [HEL.out]; exact Nat.le_refl _)]), g, rfl⟩
          case round =>
            clear g
            obtain ⟨hj, rfl, HVJ, g, rfl⟩ := hrel
            have HF : Hid (F.Sl A1 cx (limbs (val E))) := Lib.hid (sl_trim HFE.out)
            rcases Nat.eq_zero_or_pos gk with h0 | hj0
            · subst h0
              have hn0 : (limbs (val E)).length = 0 := by
                rw [← HVJ.out, List.take_zero]; exact limbs_len0
              have HLE := Lib.hid hn0
              clear hn0
              have H1 : ∀ u ∈ [Value.int .u32 1], u.oneCell' = true := by intro u hu; rw [List.mem_singleton.1 hu]; rfl
              have H2 : q + 1 ≤ maxLen := by show q + 1 ≤ 9223372036854775807; omega
              have H3 : (q + 1) * 4 ≤ 140737488355328 := by omega
              have hbb := g.fresh (List.mem_cons_self ..)
              go_wp2_with (first | (with_reducible refine G.any_mark _ ?_; (try generalize Array.size (World.heap (G.w _)) = bk); (try dsimp only [List.set_cons_zero, List.set_cons_succ]); (try clear g); intro g) | (at_builtin; refine wpList_append_lit rfl _ _ 23 rfl 29 i0 _ 1 4 Tryz.underlying23 hi hz0 hz1 hz2 rfl (by decide) g hry hbb rfl 1 rfl rfl H1 (by decide) H2 H3 ?_; clear hry hbb g; intro b' cap cs g hb hrow))
              have HRW : Hid (Row 29 1 (O ++ [1]).length (u32s (O ++ [1])) cap cs) := Lib.hid (by rw [show u32s (O ++ [1]) = u32s O ++ [.int .u32 1] from List.map_append, List.length_append, List.length_singleton, HOL.out]; exact hrow)
              have HLN : Hid ((limbs (val (O ++ [1]))).length = q + 1) := Lib.hid (by rw [HW1.out, List.length_append, List.length_singleton, HOL.out])
              have HSR : Hid (SlW g.w (some ⟨b', 0, none⟩) cap (limbs (val (O ++ [1])))) := Lib.hid (by rw [HW1.out]; exact (sl_row HRW.out rfl (by rw [List.length_append, List.length_singleton]; omega) (HOO.out.append (Ok.cons (by decide) Ok.nil))).at (blkF_sub g.blk0))
              refine (CL.out _ _ _ _ _ _ _ (G.sl g (by simp) HF.out) HSR.out HLE.out HLN.out (by omega) (by omega)).mono ?_
              rintro e w1 ⟨Aq, cq, Fq, Bq, dq, Hq, rfl, hsq, htq, hn, hm⟩
              clear HSR HRW
              have hnnq := fun k o hk => Nat.le_trans g.chg.size (hn.new k o hk)
              have hmmq := fun k o hk => Nat.le_trans g.chg.size (hm.new k o hk)
              obtain ⟨g1, rfl⟩ := G.new2_ex _ hn hm
              clear hn hm
              (try clear g)
              revert g1
              intro g
              go_wp2_with (with_reducible refine G.any_mark _ ?_; (try generalize Array.size (World.heap (G.w _)) = bk); (try dsimp only [List.set_cons_zero, List.set_cons_succ]); (try clear g); intro g)
              refine bodyPost_ret (v := .agg #[.bool sz, .slice Aq nz cq, .slice Bq dz dq]) (by simp [results, Tryz.results29, go_sem]) rfl ?_
              exact ⟨Aq, cq, Fq, Bq, dq, Hq, rfl, hsq, htq, G.pass _ (by simp) hnnq, G.pass _ (by simp) hmmq⟩
            · obtain ⟨bE, oE, rfl, hce⟩ := G.cell_of g (show F ∈ [F, heapOf w] by simp) HFE.out.lim (by rw [HEL.out]; omega)
              have e1 := hce (gk - 1) (by rw [HEL.out]; omega)
              clear hce
              have hji : ((gk - 1 : Nat) : Int) = (gk : Int) - 1 := by omega
              have hj1 : (0 : Int) ≤ (gk : Int) - 1 := by omega
              have hj2 : (gk : Int) - 1 < (gk : Int) := by omega
              have hj3 : (0 : Int) < (gk : Int) := by omega
              have hgc : gk ≤ cx := by have := HFE.out.1; rw [HEL.out] at this; omega
              by_cases hx : E.getD (gk - 1) 0 = 0
              · have hv' : val (E.take (gk - 1)) = val E := by
                  rw [← HVJ.out]
                  have := val_take_getD E (gk - 1)
                  rw [show gk - 1 + 1 = gk by omega, hx] at this
                  omega
                have HV' := Lib.hid hv'
                have hx1 : (((E.getD (gk - 1) 0 : Nat) : Int) == 0) = true := by simp only [hx]; rfl
                clear hv' hx
                generalize ((E.getD (gk - 1) 0 : Nat) : Int) = v at *
                go_wp2_with (with_reducible refine G.any_mark _ ?_; (try generalize Array.size (World.heap (G.w _)) = bk); (try dsimp only [List.set_cons_zero, List.set_cons_succ]); (try clear g); intro g)
                go_roundg (gk - 1)
                case measure => omega
                case rel => exact ⟨by omega, rfl, HV', g, rfl⟩
              · have hlen : (limbs (val E)).length = gk := by
                  have hl : (E.take gk).length = gk := by rw [List.length_take, HEL.out]; omega
                  have t : Trim (E.take gk) := by
                    intro j hj
                    rw [hl] at hj
                    rw [getD_take (by omega), show j = gk - 1 by omega]
                    exact hx
                  rw [← HVJ.out, limbs_val (HEO.out.take gk) t, hl]
                have HLE := Lib.hid hlen
                have hx1 : (((E.getD (gk - 1) 0 : Nat) : Int) == 0) = false := by simp only [beq_eq_false_iff_ne, ne_eq]; omega
                clear hlen hx
                generalize ((E.getD (gk - 1) 0 : Nat) : Int) = v at *
                have H1 : ∀ u ∈ [Value.int .u32 1], u.oneCell' = true := by intro u hu; rw [List.mem_singleton.1 hu]; rfl
                have H2 : q + 1 ≤ maxLen := by show q + 1 ≤ 9223372036854775807; omega
                have H3 : (q + 1) * 4 ≤ 140737488355328 := by omega
                have hbb := g.fresh (List.mem_cons_self ..)
                go_wp2_with (first | (with_reducible refine G.any_mark _ ?_; (try generalize Array.size (World.heap (G.w _)) = bk); (try dsimp only [List.set_cons_zero, List.set_cons_succ]); (try clear g); intro g) | (at_builtin; refine wpList_append_lit rfl _ _ 23 rfl 29 i0 _ 1 4 Tryz.underlying23 hi hz0 hz1 hz2 rfl (by decide) g hry hbb rfl 1 rfl rfl H1 (by decide) H2 H3 ?_; clear hry hbb g; intro b' cap cs g hb hrow))
                have HRW : Hid (Row 29 1 (O ++ [1]).length (u32s (O ++ [1])) cap cs) := Lib.hid (by rw [show u32s (O ++ [1]) = u32s O ++ [.int .u32 1] from List.map_append, List.length_append, List.length_singleton, HOL.out]; exact hrow)
                have HLN : Hid ((limbs (val (O ++ [1]))).length = q + 1) := Lib.hid (by rw [HW1.out, List.length_append, List.length_singleton, HOL.out])
                have HSR : Hid (SlW g.w (some ⟨b', 0, none⟩) cap (limbs (val (O ++ [1])))) := Lib.hid (by rw [HW1.out]; exact (sl_row HRW.out rfl (by rw [List.length_append, List.length_singleton]; omega) (HOO.out.append (Ok.cons (by decide) Ok.nil))).at (blkF_sub g.blk0))
                refine (CL.out _ _ _ _ _ _ _ (G.sl g (by simp) HF.out) HSR.out HLE.out HLN.out (by omega) (by omega)).mono ?_
                rintro e w1 ⟨Aq, cq, Fq, Bq, dq, Hq, rfl, hsq, htq, hn, hm⟩
                clear HSR HRW
                have hnnq := fun k o hk => Nat.le_trans g.chg.size (hn.new k o hk)
                have hmmq := fun k o hk => Nat.le_trans g.chg.size (hm.new k o hk)
                obtain ⟨g1, rfl⟩ := G.new2_ex _ hn hm
                clear hn hm
                (try clear g)
                revert g1
                intro g
                go_wp2_with (with_reducible refine G.any_mark _ ?_; (try generalize Array.size (World.heap (G.w _)) = bk); (try dsimp only [List.set_cons_zero, List.set_cons_succ]); (try clear g); intro g)
                refine bodyPost_ret (v := .agg #[.bool sz, .slice Aq nz cq, .slice Bq dz dq]) (by simp [results, Tryz.results29, go_sem]) rfl ?_
                exact ⟨Aq, cq, Fq, Bq, dq, Hq, rfl, hsq, htq, G.pass _ (by simp) hnnq, G.pass _ (by simp) hmmq⟩
        · have q1 : (k : Int) < (n : Int) := by omega
          have q2 : ¬ ((k : Int) < 16) := by omega
          go_wp2_with (with_reducible refine G.any_mark _ ?_; (try generalize Array.size (World.heap (G.w _)) = bk); (try dsimp only [List.set_cons_zero, List.set_cons_succ]); (try clear g); intro g)
          go_loopg [5] e (fun gk s5 wr => gk ≤ e ∧ s5 = .slice A1 gk cx ∧ Hid (val (E.take gk) = val E) ∧ ∃ g : G w [] [(b2, 29, csy), (rb, 25, [.bool false, .slice none 0 0, .slice none 0 0])] [F, heapOf w], wr = g.w)
          case atStart => exact ⟨Nat.le_refl _, rfl, Lib.hid (by rw [List.take_of_length_le (by rw [HEL.out]; exact Nat.le_refl _)]), g, rfl⟩
          case round =>
            clear g
            obtain ⟨hj, rfl, HVJ, g, rfl⟩ := hrel
            have HF : Hid (F.Sl A1 cx (limbs (val E))) := Lib.hid (sl_trim HFE.out)
            rcases Nat.eq_zero_or_pos gk with h0 | hj0
            · subst h0
              have hn0 : (limbs (val E)).length = 0 := by
                rw [← HVJ.out, List.take_zero]; exact limbs_len0
              have HLE := Lib.hid hn0
              clear hn0
              have H1 : ∀ u ∈ [Value.int .u32 1], u.oneCell' = true := by intro u hu; rw [List.mem_singleton.1 hu]; rfl
              have H2 : q + 1 ≤ maxLen := by show q + 1 ≤ 9223372036854775807; omega
              have H3 : (q + 1) * 4 ≤ 140737488355328 := by omega
              have hbb := g.fresh (List.mem_cons_self ..)
              go_wp2_with (first | (with_reducible refine G.any_mark _ ?_; (try generalize Array.size (World.heap (G.w _)) = bk); (try dsimp only [List.set_cons_zero, List.set_cons_succ]); (try clear g); intro g) | (at_builtin; refine wpList_append_lit rfl _ _ 23 rfl 29 i0 _ 1 4 Tryz.underlying23 hi hz0 hz1 hz2 rfl (by decide) g hry hbb rfl 1 rfl rfl H1 (by decide) H2 H3 ?_; clear hry hbb g; intro b' cap cs g hb hrow))
              have HRW : Hid (Row 29 1 (O ++ [1]).length (u32s (O ++ [1])) cap cs) := Lib.hid (by rw [show u32s (O ++ [1]) = u32s O ++ [.int .u32 1] from List.map_append, List.length_append, List.length_singleton, HOL.out]; exact hrow)
              have HLN : Hid ((limbs (val (O ++ [1]))).length = q + 1) := Lib.hid (by rw [HW1.out, List.length_append, List.length_singleton, HOL.out])
              have HSR : Hid (SlW g.w (some ⟨b', 0, none⟩) cap (limbs (val (O ++ [1])))) := Lib.hid (by rw [HW1.out]; exact (sl_row HRW.out rfl (by rw [List.length_append, List.length_singleton]; omega) (HOO.out.append (Ok.cons (by decide) Ok.nil))).at (blkF_sub g.blk0))
              refine (CL.out _ _ _ _ _ _ _ (G.sl g (by simp) HF.out) HSR.out HLE.out HLN.out (by omega) (by omega)).mono ?_
              rintro e w1 ⟨Aq, cq, Fq, Bq, dq, Hq, rfl, hsq, htq, hn, hm⟩
              clear HSR HRW
              have hnnq := fun k o hk => Nat.le_trans g.chg.size (hn.new k o hk)
              have hmmq := fun k o hk => Nat.le_trans g.chg.size (hm.new k o hk)
              obtain ⟨g1, rfl⟩ := G.new2_ex _ hn hm
              clear hn hm
              (try clear g)
              revert g1
              intro g
              go_wp2_with (with_reducible refine G.any_mark _ ?_; (try generalize Array.size (World.heap (G.w _)) = bk); (try dsimp only [List.set_cons_zero, List.set_cons_succ]); (try clear g); intro g)
              refine bodyPost_ret (v := .agg #[.bool sz, .slice Aq nz cq, .slice Bq dz dq]) (by simp [results, Tryz.results29, go_sem]) rfl ?_
              exact ⟨Aq, cq, Fq, Bq, dq, Hq, rfl, hsq, htq, G.pass _ (by simp) hnnq, G.pass _ (by simp) hmmq⟩
            · obtain ⟨bE, oE, rfl, hce⟩ := G.cell_of g (show F ∈ [F, heapOf w] by simp) HFE.out.lim (by rw [HEL.out]; omega)
              have e1 := hce (gk - 1) (by rw [HEL.out]; omega)
              clear hce
              have hji : ((gk - 1 : Nat) : Int) = (gk : Int) - 1 := by omega
              have hj1 : (0 : Int) ≤ (gk : Int) - 1 := by omega
              have hj2 : (gk : Int) - 1 < (gk : Int) := by omega
              have hj3 : (0 : Int) < (gk : Int) := by omega
              have hgc : gk ≤ cx := by have := HFE.out.1; rw [HEL.out] at this; omega
              by_cases hx : E.getD (gk - 1) 0 = 0
              · have hv' : val (E.take (gk - 1)) = val E := by
                  rw [← HVJ.out]
                  have := val_take_getD E (gk - 1)
                  rw [show gk - 1 + 1 = gk by omega, hx] at this
                  omega
                have HV' := Lib.hid hv'
                have hx1 : (((E.getD (gk - 1) 0 : Nat) : Int) == 0) = true := by simp only [hx]; rfl
                clear hv' hx
                generalize ((E.getD (gk - 1) 0 : Nat) : Int) = v at *
                go_wp2_with (with_reducible refine G.any_mark _ ?_; (try generalize Array.size (World.heap (G.w _)) = bk); (try dsimp only [List.set_cons_zero, List.set_cons_succ]); (try clear g); intro g)
                go_roundg (gk - 1)
                case measure => omega
                case rel => exact ⟨by omega, rfl, HV', g, rfl⟩
              · have hlen : (limbs (val E)).length = gk := by
                  have hl : (E.take gk).length = gk := by rw [List.length_take, HEL.out]; omega
                  have t : Trim (E.take gk) := by
                    intro j hj
                    rw [hl] at hj
                    rw [getD_take (by omega), show j = gk - 1 by omega]
                    exact hx
                  rw [← HVJ.out, limbs_val (HEO.out.take gk) t, hl]
                have HLE := Lib.hid hlen
                have hx1 : (((E.getD (gk - 1) 0 : Nat) : Int) == 0) = false := by simp only [beq_eq_false_iff_ne, ne_eq]; omega
                clear hlen hx
                generalize ((E.getD (gk - 1) 0 : Nat) : Int) = v at *
                have H1 : ∀ u ∈ [Value.int .u32 1], u.oneCell' = true := by intro u hu; rw [List.mem_singleton.1 hu]; rfl
                have H2 : q + 1 ≤ maxLen := by show q + 1 ≤ 9223372036854775807; omega
                have H3 : (q + 1) * 4 ≤ 140737488355328 := by omega
                have hbb := g.fresh (List.mem_cons_self ..)
                go_wp2_with (first | (with_reducible refine G.any_mark _ ?_; (try generalize Array.size (World.heap (G.w _)) = bk); (try dsimp only [List.set_cons_zero, List.set_cons_succ]); (try clear g); intro g) | (at_builtin; refine wpList_append_lit rfl _ _ 23 rfl 29 i0 _ 1 4 Tryz.underlying23 hi hz0 hz1 hz2 rfl (by decide) g hry hbb rfl 1 rfl rfl H1 (by decide) H2 H3 ?_; clear hry hbb g; intro b' cap cs g hb hrow))
                have HRW : Hid (Row 29 1 (O ++ [1]).length (u32s (O ++ [1])) cap cs) := Lib.hid (by rw [show u32s (O ++ [1]) = u32s O ++ [.int .u32 1] from List.map_append, List.length_append, List.length_singleton, HOL.out]; exact hrow)
                have HLN : Hid ((limbs (val (O ++ [1]))).length = q + 1) := Lib.hid (by rw [HW1.out, List.length_append, List.length_singleton, HOL.out])
                have HSR : Hid (SlW g.w (some ⟨b', 0, none⟩) cap (limbs (val (O ++ [1])))) := Lib.hid (by rw [HW1.out]; exact (sl_row HRW.out rfl (by rw [List.length_append, List.length_singleton]; omega) (HOO.out.append (Ok.cons (by decide) Ok.nil))).at (blkF_sub g.blk0))
                refine (CL.out _ _ _ _ _ _ _ (G.sl g (by simp) HF.out) HSR.out HLE.out HLN.out (by omega) (by omega)).mono ?_
                rintro e w1 ⟨Aq, cq, Fq, Bq, dq, Hq, rfl, hsq, htq, hn, hm⟩
                clear HSR HRW
                have hnnq := fun k o hk => Nat.le_trans g.chg.size (hn.new k o hk)
                have hmmq := fun k o hk => Nat.le_trans g.chg.size (hm.new k o hk)
                obtain ⟨g1, rfl⟩ := G.new2_ex _ hn hm
                clear hn hm
                (try clear g)
                revert g1
                intro g
                go_wp2_with (with_reducible refine G.any_mark _ ?_; (try generalize Array.size (World.heap (G.w _)) = bk); (try dsimp only [List.set_cons_zero, List.set_cons_succ]); (try clear g); intro g)
                refine bodyPost_ret (v := .agg #[.bool sz, .slice Aq nz cq, .slice Bq dz dq]) (by simp [results, Tryz.results29, go_sem]) rfl ?_
                exact ⟨Aq, cq, Fq, Bq, dq, Hq, rfl, hsq, htq, G.pass _ (by simp) hnnq, G.pass _ (by simp) hmmq⟩
    · have q1 : (k : Int) < (n : Int) := by omega
      have q2 : (k : Int) < 16 := by omega
      have q3 : (0 : Int) ≤ (k : Int) := by omega
      clear CL
      obtain ⟨b1, o1, rfl, hc1⟩ := limW_cell H.out.lim (by rw [HN.out]; omega)
      have hck := hc1 k (by rw [HN.out]; omega)
      clear hc1
      obtain ⟨v, hv⟩ : ∃ v, ((l.getD k 0 : Nat) : Int) = v := ⟨_, rfl⟩
      rw [hv] at hck
      have HV := Lib.hid hv
      have HC := Lib.hid hck
      have H1 : ∀ u ∈ [Value.int .u32 v], u.oneCell' = true := by intro u hu; rw [List.mem_singleton.1 hu]; rfl
      clear hv hck
      rcases hc with ⟨rfl, rfl, rfl, g, rfl⟩ | ⟨rfl, bx, cx, csx, rfl, rfl, hr, g, rfl⟩ | ⟨hk2, bx, cx, csx, b2, cy, csy, rfl, rfl, hrx, hry, g, rfl⟩
      · have e1 := G.old g (by simp) HC.out
        rw [Nat.add_zero] at e1
        have q4 : (0 : Int) < (n : Int) := q1
        have HR : Hid (u32s (evl l 1) = [.int .u32 v]) := Lib.hid (by rw [evl_even l (k := 0) rfl]; simp only [evl, List.nil_append, u32s, List.map_cons, List.map_nil, HV.out])
        clear q1 q2 q3
        go_wp2_with (first | (with_reducible refine G.any_mark _ ?_; (try generalize Array.size (World.heap (G.w _)) = bk); (try dsimp only [List.set_cons_zero, List.set_cons_succ]); (try clear g); intro g) | (at_builtin; refine wpList_append_lit0 rfl _ _ 23 rfl 29 i0 _ 1 4 Tryz.underlying23 hi hz0 hz1 hz2 rfl (by decide) g rfl 1 rfl rfl H1 (by decide) (by decide) (by decide) ?_; clear g; intro b' cap cs g hb hrow))
        refine ⟨⟨1, by omega, by go_num, .inr (.inl ⟨rfl, b', cap, cs, rfl, rfl, ?_, g, rfl⟩)⟩, by simp [intOf]; omega⟩
        rw [HR.out]; exact hrow
      · have e1 := G.old g (by simp) HC.out
        have q4 : (1 : Int) < (n : Int) := q1
        have HR : Hid (u32s (odl l 2) = [.int .u32 v]) := Lib.hid (by rw [odl_odd l (k := 1) rfl, odl_even l (k := 0) rfl]; simp only [odl, List.nil_append, u32s, List.map_cons, List.map_nil, HV.out])
        clear q1 q2 q3
        go_wp2_with (first | (with_reducible refine G.any_mark _ ?_; (try generalize Array.size (World.heap (G.w _)) = bk); (try dsimp only [List.set_cons_zero, List.set_cons_succ]); (try clear g); intro g) | (at_builtin; refine wpList_append_lit0 rfl _ _ 23 rfl 29 i0 _ 1 4 Tryz.underlying23 hi hz0 hz1 hz2 rfl (by decide) g rfl 1 rfl rfl H1 (by decide) (by decide) (by decide) ?_; clear g; intro b' cap cs g hb hrow))
        obtain ⟨g2, hg2⟩ := g.perm (List.Perm.swap _ _ _)
        refine ⟨⟨2, by omega, by go_num, .inr (.inr ⟨by decide, bx, cx, csx, b', cap, cs, rfl, rfl, ?_, ?_, g2, hg2⟩)⟩, by simp [intOf]; omega⟩
        · rw [evl_odd l (k := 1) rfl]; exact hr
        · rw [HR.out]; exact hrow
      · have e1 := G.old g (by simp) HC.out
        by_cases hp : k % 2 = 0
        · have q4 : Int.tmod (k : Int) 2 = 0 := by rw [Int.tmod_eq_emod_of_nonneg (by omega)]; omega
          have HR : Hid (u32s (evl l (k + 1)) = u32s (evl l k) ++ [.int .u32 v]) := Lib.hid (by rw [evl_even l hp, show u32s (evl l k ++ [l.getD k 0]) = u32s (evl l k) ++ u32s [l.getD k 0] from List.map_append]; simp only [u32s, List.map_cons, List.map_nil, HV.out])
          obtain ⟨e, he⟩ : ∃ e, (k + 1) / 2 = e := ⟨_, rfl⟩
          have HE := Lib.hid he
          rw [he] at hrx ⊢
          have H2 : e + 1 ≤ maxLen := by show e + 1 ≤ 9223372036854775807; omega
          have H3 : (e + 1) * 4 ≤ 140737488355328 := by omega
          have hbb := g.fresh (List.mem_cons_self ..)
          clear he
          go_wp2_with (first | (with_reducible refine G.any_mark _ ?_; (try generalize Array.size (World.heap (G.w _)) = bk); (try dsimp only [List.set_cons_zero, List.set_cons_succ]); (try clear g); intro g) | (at_builtin; refine wpList_append_lit rfl _ _ 23 rfl 29 i0 _ 1 4 Tryz.underlying23 hi hz0 hz1 hz2 rfl (by decide) g hrx hbb rfl 1 rfl rfl H1 (by decide) H2 H3 ?_; clear hrx hbb g; intro b' cap cs g hb hrow))
          have he := HE.out
          refine ⟨⟨k + 1, by omega, by go_num, .inr (.inr ⟨by omega, b', cap, cs, b2, cy, csy, ?_, ?_, ?_, ?_, g, rfl⟩)⟩, by simp [intOf]; omega⟩
          · rw [show (k + 1 + 1) / 2 = e + 1 by omega]
          · rw [show (k + 1) / 2 = k / 2 by omega]
          · rw [HR.out, show (k + 1 + 1) / 2 = e + 1 by omega]; exact hrow
          · rw [odl_even l hp, show (k + 1) / 2 = k / 2 by omega]; exact hry
        · have hp : k % 2 = 1 := by omega
          have q4 : Int.tmod (k : Int) 2 = 1 := by rw [Int.tmod_eq_emod_of_nonneg (by omega)]; omega
          have HR : Hid (u32s (odl l (k + 1)) = u32s (odl l k) ++ [.int .u32 v]) := Lib.hid (by rw [odl_odd l hp, show u32s (odl l k ++ [l.getD k 0]) = u32s (odl l k) ++ u32s [l.getD k 0] from List.map_append]; simp only [u32s, List.map_cons, List.map_nil, HV.out])
          obtain ⟨e, he⟩ : ∃ e, k / 2 = e := ⟨_, rfl⟩
          have HE := Lib.hid he
          rw [he] at hry ⊢
          have H2 : e + 1 ≤ maxLen := by show e + 1 ≤ 9223372036854775807; omega
          have H3 : (e + 1) * 4 ≤ 140737488355328 := by omega
          obtain ⟨g2, hg2⟩ := g.perm (List.Perm.swap _ _ _)
          rw [hg2] at e1 ⊢
          clear hg2 g
          revert g2
          intro g e1
          have hbb := g.fresh (List.mem_cons_self ..)
          clear he
          go_wp2_with (first | (with_reducible refine G.any_mark _ ?_; (try generalize Array.size (World.heap (G.w _)) = bk); (try dsimp only [List.set_cons_zero, List.set_cons_succ]); (try clear g); intro g) | (at_builtin; refine wpList_append_lit rfl _ _ 23 rfl 29 i0 _ 1 4 Tryz.underlying23 hi hz0 hz1 hz2 rfl (by decide) g hry hbb rfl 1 rfl rfl H1 (by decide) H2 H3 ?_; clear hry hbb g; intro b' cap cs g hb hrow))
          have he := HE.out
          obtain ⟨g2, hg2⟩ := g.perm (List.Perm.swap _ _ _)
          refine ⟨⟨k + 1, by omega, by go_num, .inr (.inr ⟨by omega, bx, cx, csx, b', cap, cs, ?_, ?_, ?_, ?_, g2, hg2⟩)⟩, by simp [intOf]; omega⟩
          · rw [show (k + 1 + 1) / 2 = (k + 1) / 2 by omega]
          · rw [show (k + 1) / 2 = e + 1 by omega]
          · rw [evl_odd l hp, show (k + 1 + 1) / 2 = (k + 1) / 2 by omega]; exact hrx
          · rw [HR.out, show (k + 1) / 2 = e + 1 by omega]; exact hrow
end Go.Proofs.YtjdnpkicdmapnaaGreatDoor
namespace Go.Proofs.YtjdnpkicdmapnaaGreatDoor
open Go.RowKit GW NL
theorem pick_bool {P : Program} {f : FuncId} {v : Value} {s : Bool} {w : World} {R : Ending → World → Prop} (h : ∀ s : Bool, Calls P f #[v, .bool s] w R) : Calls P f #[v, .bool s] w R := h s
theorem llen_ne {v : Nat} (h : v ≠ 0) : 0 < (limbs v).length := by
  rcases Nat.eq_zero_or_pos (limbs v).length with h1 | h1
  · exact absurd (limbs_nil.1 (List.eq_nil_of_length_eq_zero h1)) h
  · exact h1
theorem bd_lit (s : Bool) {n d : Nat} (hd : d ≠ 0) (h1 : n < 2 ^ 64) (h2 : d < 2 ^ 64) : Bd 8192 (frac s n d) := (Bd.frac s hd h1 h2).mono (by decide)
theorem dec_one {d : Nat} (h : d < 10) (h0 : d ≠ 0) : dec d = [48 + d] := by
  unfold dec
  rw [if_neg h0, digs_pos h0, show d / 10 = 0 by omega, show d % 10 = d by omega, digs_zero]
  rfl
theorem qtext_lit : qtext (rneg (frac true 3 2)) (rn (frac true 3 2)) (frac true 3 2).den = { data := #[45, 51, 47, 50] } := by
  rw [show rneg (frac true 3 2) = true by decide +kernel, show rn (frac true 3 2) = 3 by decide +kernel, show (frac true 3 2).den = 2 by decide +kernel]
  unfold qtext
  rw [dec_one (by decide) (by decide), dec_one (by decide) (by decide)]
  rfl
set_option maxRecDepth 20000 in
set_option maxHeartbeats 2000000 in
theorem llives_x (w : World) (hT : Tab w) : Calls Tryz.prog 7 #[] w fun e w' => e = .returned (.bool true) ∧ Below w.heap.size w w' := by
  refine calls_b fun g => ?_
  have hq := qtext_lit
  obtain ⟨a, ha⟩ : ∃ a, frac true 3 2 = a := ⟨_, rfl⟩
  obtain ⟨b, hb⟩ : ∃ b, frac false 1 2 = b := ⟨_, rfl⟩
  obtain ⟨c, hc⟩ : ∃ c, frac false 1 3 = c := ⟨_, rfl⟩
  obtain ⟨d, hd⟩ : ∃ d, frac false 5 6 = d := ⟨_, rfl⟩
  have E1 : Hid (frac (decide ((6 : Int) < 0) != decide ((-4 : Int) < 0)) (6 : Int).natAbs (-4 : Int).natAbs = a) := Lib.hid (by rw [← ha]; decide +kernel)
  have E2 : Hid (frac (decide ((1 : Int) < 0) != decide ((2 : Int) < 0)) (1 : Int).natAbs (2 : Int).natAbs = b) := Lib.hid (by rw [← hb]; decide +kernel)
  have E3 : Hid (frac (decide ((1 : Int) < 0) != decide ((3 : Int) < 0)) (1 : Int).natAbs (3 : Int).natAbs = c) := Lib.hid (by rw [← hc]; decide +kernel)
  have E4 : Hid (frac (decide ((-3 : Int) < 0) != decide ((2 : Int) < 0)) (-3 : Int).natAbs (2 : Int).natAbs = a) := Lib.hid (by rw [← ha]; decide +kernel)
  have E5 : Hid (frac (decide ((5 : Int) < 0) != decide ((6 : Int) < 0)) (5 : Int).natAbs (6 : Int).natAbs = d) := Lib.hid (by rw [← hd]; decide +kernel)
  have E6 : Hid (b + c = d) := Lib.hid (by rw [← hb, ← hc, ← hd]; decide +kernel)
  have HBa : Hid (Bd 8192 a) := Lib.hid (by rw [← ha]; exact bd_lit _ (by decide) (by decide) (by decide))
  have HBb : Hid (Bd 8192 b) := Lib.hid (by rw [← hb]; exact bd_lit _ (by decide) (by decide) (by decide))
  have HBc : Hid (Bd 8192 c) := Lib.hid (by rw [← hc]; exact bd_lit _ (by decide) (by decide) (by decide))
  have HBd : Hid (Bd 8192 d) := Lib.hid (by rw [← hd]; exact bd_lit _ (by decide) (by decide) (by decide))
  rw [ha] at hq
  have HQ := Lib.hid hq
  have HT := Lib.hid hT
  clear ha hb hc hd hq hT
  go_enter Tryz.func7, Tryz.ntmps7
  go_wp2_with (with_reducible refine G.any_mark _ ?_; (try generalize Array.size (World.heap (G.w _)) = bk); (try dsimp only [List.set_cons_zero, List.set_cons_succ]); (try clear g); intro g)
  (try (refine cmark _ ?_; (try dsimp only [List.set_cons_zero, List.set_cons_succ]); (try clear g); intro g))
  refine (qOf_x 6 (-4) a (by decide) HBa.out E1.out (by decide) (by decide) (by decide) (by decide) _ (G.tab g HT.out)).mono ?_
  rintro e w1 ⟨Aa, ca, Fa, Ba, da, Ha, rfl, hsa, hta, hn, hm⟩
  have hnna := fun k o hk => Nat.le_trans g.chg.size (hn.new k o hk)
  have hmma := fun k o hk => Nat.le_trans g.chg.size (hm.new k o hk)
  obtain ⟨g1, rfl⟩ := G.new2_ex _ hn hm
  clear hn hm
  (try clear g)
  revert g1
  intro g
  go_wp2_with (with_reducible refine G.any_mark _ ?_; (try generalize Array.size (World.heap (G.w _)) = bk); (try dsimp only [List.set_cons_zero, List.set_cons_succ]); (try clear g); intro g)
  (try (refine cmark _ ?_; (try dsimp only [List.set_cons_zero, List.set_cons_succ]); (try clear g); intro g))
  refine (lof_x (1) (2) b (by decide) E2.out (by decide) (by decide) (by decide) (by decide) _).mono ?_
  rintro e w1 ⟨Ab, cb, Fb, Bb, db, Hb, rfl, hsb, htb, hn, hm⟩
  have hnnb := fun k o hk => Nat.le_trans g.chg.size (hn.new k o hk)
  have hmmb := fun k o hk => Nat.le_trans g.chg.size (hm.new k o hk)
  obtain ⟨g1, rfl⟩ := G.new2_ex _ hn hm
  clear hn hm
  (try clear g)
  revert g1
  intro g
  go_wp2_with (with_reducible refine G.any_mark _ ?_; (try generalize Array.size (World.heap (G.w _)) = bk); (try dsimp only [List.set_cons_zero, List.set_cons_succ]); (try clear g); intro g)
  (try (refine cmark _ ?_; (try dsimp only [List.set_cons_zero, List.set_cons_succ]); (try clear g); intro g))
  refine (lof_x (1) (3) c (by decide) E3.out (by decide) (by decide) (by decide) (by decide) _).mono ?_
  rintro e w1 ⟨Ac, cc, Fc, Bc, dc, Hc, rfl, hsc, htc, hn, hm⟩
  have hnnc := fun k o hk => Nat.le_trans g.chg.size (hn.new k o hk)
  have hmmc := fun k o hk => Nat.le_trans g.chg.size (hm.new k o hk)
  obtain ⟨g1, rfl⟩ := G.new2_ex _ hn hm
  clear hn hm
  (try clear g)
  revert g1
  intro g
  go_wp2_with (with_reducible refine G.any_mark _ ?_; (try generalize Array.size (World.heap (G.w _)) = bk); (try dsimp only [List.set_cons_zero, List.set_cons_succ]); (try clear g); intro g)
  (try (refine cmark _ ?_; (try dsimp only [List.set_cons_zero, List.set_cons_succ]); (try clear g); intro g))
  refine (qAdd_x _ _ _ _ _ _ _ _ b c d HBb.out HBc.out HBd.out E6.out _ (G.sl g (by simp) hsb) (G.sl g (by simp) htb) (G.sl g (by simp) hsc) (G.sl g (by simp) htc) (G.tab g HT.out)).mono ?_
  rintro e w1 ⟨Ad, cd, Fd, Bd, dd, Hd, rfl, hsd, htd, hn, hm⟩
  have hnnd := fun k o hk => Nat.le_trans g.chg.size (hn.new k o hk)
  have hmmd := fun k o hk => Nat.le_trans g.chg.size (hm.new k o hk)
  obtain ⟨g1, rfl⟩ := G.new2_ex _ hn hm
  clear hn hm
  (try clear g)
  revert g1
  intro g
  go_wp2_with (with_reducible refine G.any_mark _ ?_; (try generalize Array.size (World.heap (G.w _)) = bk); (try dsimp only [List.set_cons_zero, List.set_cons_succ]); (try clear g); intro g)
  (try (refine cmark _ ?_; (try dsimp only [List.set_cons_zero, List.set_cons_succ]); (try clear g); intro g))
  refine (lof_x (-3) (2) a (by decide) E4.out (by decide) (by decide) (by decide) (by decide) _).mono ?_
  rintro e w1 ⟨Ae, ce, Fe, Be, de, He, rfl, hse, hte, hn, hm⟩
  have hnne := fun k o hk => Nat.le_trans g.chg.size (hn.new k o hk)
  have hmme := fun k o hk => Nat.le_trans g.chg.size (hm.new k o hk)
  obtain ⟨g1, rfl⟩ := G.new2_ex _ hn hm
  clear hn hm
  (try clear g)
  revert g1
  intro g
  go_wp2_with (with_reducible refine G.any_mark _ ?_; (try generalize Array.size (World.heap (G.w _)) = bk); (try dsimp only [List.set_cons_zero, List.set_cons_succ]); (try clear g); intro g)
  (try (refine cmark _ ?_; (try dsimp only [List.set_cons_zero, List.set_cons_succ]); (try clear g); intro g))
  refine (qText_x _ _ _ _ a HBa.out _ (G.sl g (by simp) hse) (G.sl g (by simp) hte) (G.tab g HT.out)).mono ?_
  rw [HQ.out]
  rintro e w1 ⟨rfl, hb⟩
  obtain ⟨g1, rfl⟩ := G.call_ex _ hb
  clear hb
  (try clear g)
  revert g1
  intro g
  go_wp2_with (with_reducible refine G.any_mark _ ?_; (try generalize Array.size (World.heap (G.w _)) = bk); (try dsimp only [List.set_cons_zero, List.set_cons_succ]); (try clear g); intro g)
  (try (refine cmark _ ?_; (try dsimp only [List.set_cons_zero, List.set_cons_succ]); (try clear g); intro g))
  refine (lis_x _ _ _ _ (-3) 2 a (by decide) E4.out (by decide) (by decide) (by decide) (by decide) _ (G.sl g (by simp) hsa) (G.sl g (by simp) hta)).mono ?_
  rintro e w1 ⟨rfl, hb⟩
  obtain ⟨g1, rfl⟩ := G.call_ex _ hb
  clear hb
  (try clear g)
  revert g1
  intro g
  go_wp2_with (with_reducible refine G.any_mark _ ?_; (try generalize Array.size (World.heap (G.w _)) = bk); (try dsimp only [List.set_cons_zero, List.set_cons_succ]); (try clear g); intro g)
  (try (refine cmark _ ?_; (try dsimp only [List.set_cons_zero, List.set_cons_succ]); (try clear g); intro g))
  refine (lis_x _ _ _ _ 5 6 d (by decide) E5.out (by decide) (by decide) (by decide) (by decide) _ (G.sl g (by simp) hsd) (G.sl g (by simp) htd)).mono ?_
  rintro e w1 ⟨rfl, hb⟩
  obtain ⟨g1, rfl⟩ := G.call_ex _ hb
  clear hb
  (try clear g)
  revert g1
  intro g
  go_wp2_with (with_reducible refine G.any_mark _ ?_; (try generalize Array.size (World.heap (G.w _)) = bk); (try dsimp only [List.set_cons_zero, List.set_cons_succ]); (try clear g); intro g)
  go_ret
  exact ⟨rfl, G.below _⟩
end Go.Proofs.YtjdnpkicdmapnaaGreatDoor
