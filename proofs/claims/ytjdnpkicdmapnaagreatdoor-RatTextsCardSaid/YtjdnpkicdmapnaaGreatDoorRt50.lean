/- Plain facts and contracts of functions of the program, out of walks. Their conditions stand ahead of each. -/
import Derived.Test.YtjdnpkicdmapnaaGreatDoorRt25
import Derived.Test.YtjdnpkicdmapnaaGreatDoorRt46
import Derived.Test.YtjdnpkicdmapnaaGreatDoorRt49
import Derived.Below
import Derived.BigQuiet
import Derived.Deep.Draws
import Derived.Deep.LoopGhost
import Derived.Deep.QuietTactic
import Derived.Deep.RegionHeld3
import Derived.Deep.RegionLaw
import Derived.Defers
import Derived.Ground.GgwProg
import Derived.LaidEql
import Derived.Laws.BytesString
import Derived.Laws.Cells
import Derived.Laws.CopyOwn
import Derived.Laws.CopyRow
import Derived.Laws.IdiomStrings
import Derived.Laws.NewBlocks
import Derived.Laws.OwnMore
import Derived.Laws.Pointers
import Derived.Laws.Rows
import Derived.Lib.BitFns
import Derived.Lib.Hide
import Derived.Lib.IndexLaws
import Derived.Lib.IndexMore
import Derived.Lib.ItoaNum
import Derived.Lib.TrailingZeros
import Derived.LoopIn
import Derived.LoopNIn
import Derived.Maps.AppendAt
import Derived.OrdersIn
import Derived.OwnWalk
import Derived.OwnWalkIn
import Derived.RangeFuncBound
import Derived.RangeFuncBox
import Derived.RangeFuncCalls
import Derived.RangeFuncLeaves
import Derived.RangeFuncNested
import Derived.RowKit3
import Derived.RowKitTokens
import Derived.Shelf.Abstract
import Derived.Shelf.GgClosure.StringsIndexFunc
import Derived.Shelf.GgClosure.StringsIndexFuncTop
import Derived.Shelf.RegionOpen
import Derived.Shelf.Small.Wraps
import Derived.Shelf.Spec.TrailingZeros
import Derived.Shelf.Strings.Cut
import Derived.Shelf.Strings.Prefix
import Derived.StillTactics
import Derived.StillTailTactics
import Derived.Stop.Asserts
import Derived.TacticsInMore
import Derived.Test.YtjdnpkicdmapnaaGreatDoorProg
import Derived.WalkKit
import Derived.WalkLawsBesides
import Derived.WalkMore
import Derived.WalkSpells
set_option linter.unusedVariables false
set_option linter.unusedSimpArgs false
set_option exponentiation.threshold 10000
namespace Go.Proofs.YtjdnpkicdmapnaaGreatDoor
open Go.RowKit GW NL
/-- a number with a fault -/
def RPf (x : Int × Nat × (Bool × Nat × Nat)) (w : World) (e : Ending) (w' : World) : Prop :=
  ∃ A c F B k H, e = .returned (.tuple #[.agg #[.bool x.2.2.1, .slice A (limbs x.2.2.2.1).length c, .slice B (limbs x.2.2.2.2).length k], .agg #[.int .i64 x.1, .int .i64 ((x.2.1 : Nat) : Int)]]) ∧ F.Sl A c (limbs x.2.2.2.1) ∧ H.Sl B k (limbs x.2.2.2.2) ∧ New w w' F ∧ New w w' H
/-- what the parts are in each case -/
def ParOk (x : Int × Nat × (Bool × Nat × Nat)) : Prop := (x.1 ≠ 0 ∧ x.2.2 = (false, 0, 0)) ∨ (x.1 = 0 ∧ x.2.1 = 0 ∧ x.2.2.2.1 < 2 ^ 8192 ∧ x.2.2.2.2 < 2 ^ 8192)
theorem resP_ok (neg : Bool) (fr : Nat) (r : List Nat) : ParOk (resP neg fr r) := by
  have one : (1 : Nat) < 2 ^ 8192 := by decide
  unfold resP
  split
  · exact .inl ⟨show (11 : Int) ≠ 0 by decide, rfl⟩
  · split
    · split
      · exact .inl ⟨show (11 : Int) ≠ 0 by decide, rfl⟩
      · split
        · exact .inl ⟨show (11 : Int) ≠ 0 by decide, rfl⟩
        · split
          · exact .inl ⟨by assumption, rfl⟩
          · split
            · exact .inl ⟨by assumption, rfl⟩
            · split
              · exact .inl ⟨show (6 : Int) ≠ 0 by decide, rfl⟩
              · rename_i hz
                have := Bd.frac neg hz (natP_val (r.take (dig r))) (natP_val (r.drop (dig r + 1)))
                exact .inr ⟨rfl, rfl, this.1, this.2⟩
    · split
      · exact .inl ⟨by assumption, rfl⟩
      · exact .inr ⟨rfl, rfl, natP_val r, one⟩
theorem parP_ok (b : List Nat) : ParOk (parP b) := by
  unfold parP
  split
  · exact .inl ⟨by decide, rfl⟩
  · split
    · exact resP_ok _ _ _
    · exact resP_ok _ _ _
theorem rpf_err {w0 : World} {M : List Blk} {I : List Frag} (g : G w0 [] M I) (x : Int) (p : Nat) : RPf (x, p, (false, 0, 0)) w0 (.returned (.tuple #[.agg #[.bool false, .slice none 0 0, .slice none 0 0], .agg #[.int .i64 x, .int .i64 ((p : Nat) : Int)]])) g.w :=
  ⟨none, 0, _, none, 0, _, by simp only [limbs_zero]; rfl, by simp only [limbs_zero]; exact Frag.Sl.nil _ _, by simp only [limbs_zero]; exact Frag.Sl.nil _ _, g.none, g.none⟩
set_option maxRecDepth 20000 in
set_option maxHeartbeats 4000000 in
theorem qParse_any (s : ByteArray) (m : Int) (w : World) (hm : w.cell? ⟨3, 0, none⟩ = some (.int .i64 m)) (hg : w.cell? ⟨0, 0, none⟩ = some (.iface 145 (.agg #[.pointer (some ⟨4, 79, none⟩)]))) (hT : Tab w) :
    Calls Tryz.prog 27 #[.string s] w (RPf (parP (bl s)) w) := by
  refine calls_b fun g => ?_
  by_cases hl : 5000 < s.size
  · have e : parP (bl s) = (4, 5000, (false, 0, 0)) := by unfold parP; rw [bl_len, if_pos hl]
    rw [e]
    have hli : (5000 : Int) < (s.size : Int) := by omega
    clear e hm hg hT hl
    go_enter Tryz.func27, Tryz.ntmps27
    go_wp2_with (with_reducible refine G.any_mark _ ?_; (try generalize Array.size (World.heap (G.w _)) = bk); (try dsimp only [List.set_cons_zero, List.set_cons_succ]); (try clear g); intro g)
    refine bodyPost_ret (v := .tuple #[.agg #[.bool false, .slice none 0 0, .slice none 0 0], .agg #[.int .i64 4, .int .i64 5000]]) (by simp [results, Tryz.results27, go_sem]) rfl ?_
    exact rpf_err _ 4 5000
  · have hli : ¬ (5000 : Int) < (s.size : Int) := by omega
    have CR := Lib.hid (fun w hm hT => read_any s (by omega) m w hm hT)
    have hpo := parP_ok (bl s)
    obtain ⟨⟨er, pl, sg, n, d⟩, hx⟩ : ∃ x, parP (bl s) = x := ⟨_, rfl⟩
    rw [hx] at CR hpo ⊢
    unfold RRd at CR
    unfold ParOk at hpo
    dsimp only at CR hpo
    have HM := Lib.hid hm
    have HG := Lib.hid hg
    have HT := Lib.hid hT
    clear hx hm hg hT hl
    rcases hpo with ⟨hne, h2⟩ | ⟨rfl, rfl, hn, hd⟩
    · simp only [Prod.mk.injEq] at h2
      obtain ⟨rfl, rfl, rfl⟩ := h2
      obtain ⟨q, hq⟩ : ∃ q : Int, ((pl : Nat) : Int) = q := ⟨_, rfl⟩
      rw [hq] at CR
      go_enter Tryz.func27, Tryz.ntmps27
      go_wp2_with (with_reducible refine G.any_mark _ ?_; (try generalize Array.size (World.heap (G.w _)) = bk); (try dsimp only [List.set_cons_zero, List.set_cons_succ]); (try clear g); intro g)
      refine (CR.out _ (G.oldcell g HM.out) (G.tab g HT.out)).mono ?_
      rintro e w1 (⟨_, ⟨sx, A, nx, c, B, mx, k, rfl⟩, hb⟩ | ⟨h0, _⟩)
      rotate_left 1
      · exact absurd h0 hne
      obtain ⟨g1, rfl⟩ := G.call_ex _ hb
      clear hb
      (try clear g)
      revert g1
      intro g
      go_wp2_with (with_reducible refine G.any_mark _ ?_; (try generalize Array.size (World.heap (G.w _)) = bk); (try dsimp only [List.set_cons_zero, List.set_cons_succ]); (try clear g); intro g)
      (try (refine cmark _ ?_; (try dsimp only [List.set_cons_zero, List.set_cons_succ]); (try clear g); intro g))
      refine (as_hit _ er q 0 0 _ (G.blk0 g) (G.oldcell g HG.out)).mono ?_
      rintro e w1 ⟨rfl, hch, hcb⟩
      obtain ⟨g1, rfl⟩ := G.mut0 g (cs' := [.int .i64 er, .int .i64 q]) hch hcb
      clear hch hcb
      (try clear g)
      revert g1
      intro g
      go_wp2_with (with_reducible refine G.any_mark _ ?_; (try generalize Array.size (World.heap (G.w _)) = bk); (try dsimp only [List.set_cons_zero, List.set_cons_succ]); (try clear g); intro g)
      go_region
      all_goals ((try simp only [G.drew_eq, G.drewN_eq]); (refine G.any_mark _ ?_; (try clear g); intro g))
      all_goals go_wp2_with (with_reducible refine G.any_mark _ ?_; (try generalize Array.size (World.heap (G.w _)) = bk); (try dsimp only [List.set_cons_zero, List.set_cons_succ]); (try clear g); intro g)
      all_goals refine bodyPost_ret (v := .tuple #[.agg #[.bool false, .slice none 0 0, .slice none 0 0], .agg #[.int .i64 er, .int .i64 q]]) (by simp [results, Tryz.results27, go_sem]) rfl ?_
      all_goals (subst hq; exact rpf_err _ er pl)
    · have CS := Lib.hid (fun A B c k w h1 h2 => result_any sg A B c k n d w h1 h2)
      unfold RPE outP at CS
      rw [if_pos ⟨hn, hd⟩] at CS
      dsimp only at CS
      unfold RPf
      dsimp only
      clear hn hd
      generalize (limbs n).length = ln at *
      generalize (limbs d).length = ld at *
      go_enter Tryz.func27, Tryz.ntmps27
      go_wp2_with (with_reducible refine G.any_mark _ ?_; (try generalize Array.size (World.heap (G.w _)) = bk); (try dsimp only [List.set_cons_zero, List.set_cons_succ]); (try clear g); intro g)
      refine (CR.out _ (G.oldcell g HM.out) (G.tab g HT.out)).mono ?_
      rintro e w1 (⟨h0, _⟩ | ⟨_, A, c, F, B, k, H, rfl, hs, ht, hn, hm⟩)
      · exact absurd rfl h0
      obtain ⟨g1, rfl⟩ := G.new2_ex _ hn hm
      clear hn hm
      (try clear g)
      revert g1
      intro g
      go_wp2_with (with_reducible refine G.any_mark _ ?_; (try generalize Array.size (World.heap (G.w _)) = bk); (try dsimp only [List.set_cons_zero, List.set_cons_succ]); (try clear g); intro g)
      (try (refine cmark _ ?_; (try dsimp only [List.set_cons_zero, List.set_cons_succ]); (try clear g); intro g))
      refine (as_nil _ _).mono ?_
      rintro e w1 ⟨rfl, rfl⟩
      go_wp2_with (with_reducible refine G.any_mark _ ?_; (try generalize Array.size (World.heap (G.w _)) = bk); (try dsimp only [List.set_cons_zero, List.set_cons_succ]); (try clear g); intro g)
      (try (refine cmark _ ?_; (try dsimp only [List.set_cons_zero, List.set_cons_succ]); (try clear g); intro g))
      refine (CS.out _ _ _ _ _ (G.sl g (by simp) hs) (G.sl g (by simp) ht)).mono ?_
      rintro e w1 ⟨Aq, cq, Fq, Bq, dq, Hq, rfl, hsq, htq, hn, hm⟩
      have hnnq := fun k o hk => Nat.le_trans g.chg.size (hn.new k o hk)
      have hmmq := fun k o hk => Nat.le_trans g.chg.size (hm.new k o hk)
      obtain ⟨g1, rfl⟩ := G.new2_ex _ hn hm
      clear hn hm
      (try clear g)
      revert g1
      intro g
      go_wp2_with (with_reducible refine G.any_mark _ ?_; (try generalize Array.size (World.heap (G.w _)) = bk); (try dsimp only [List.set_cons_zero, List.set_cons_succ]); (try clear g); intro g)
      refine bodyPost_ret (v := .tuple #[.agg #[.bool sg, .slice Aq ln cq, .slice Bq ld dq], .agg #[.int .i64 0, .int .i64 0]]) (by simp [results, Tryz.results27, go_sem]) rfl ?_
      exact ⟨Aq, cq, Fq, Bq, dq, Hq, rfl, hsq, htq, G.pass _ (by simp) hnnq, G.pass _ (by simp) hmmq⟩
end Go.Proofs.YtjdnpkicdmapnaaGreatDoor
namespace Go.Proofs.YtjdnpkicdmapnaaGreatDoor
open Go.RowKit GW NL
theorem getD_drop (l : List Nat) (i j : Nat) : (l.drop i).getD j 0 = l.getD (i + j) 0 := by
  rw [List.getD_eq_getElem?_getD, List.getElem?_drop, ← List.getD_eq_getElem?_getD]
set_option maxRecDepth 20000 in
set_option maxHeartbeats 4000000 in
theorem rdigits_any (s : ByteArray) (i r : Nat) (w : World) (hn9 : s.size ≤ 1000000) (hi : i ≤ s.size) (hr : Hid (i + dig ((bl s).drop i) = r)) :
    Calls Tryz.prog 71 #[.string s, .int .i64 (i : Int)] w fun e w' => e = .returned (.int .i64 (r : Int)) ∧ Below w.heap.size w w' := by
  refine calls_b fun g => ?_
  obtain ⟨l, hl⟩ : ∃ l, bl s = l := ⟨_, rfl⟩
  have hll := bl_len s
  have hlt := bl_lt s
  rw [hl] at hll hlt hr
  obtain ⟨n, hsz⟩ : ∃ n, s.size = n := ⟨_, rfl⟩
  rw [hsz] at hn9 hi hll
  go_enter Tryz.func71, Tryz.ntmps71
  go_wp2_with (with_reducible refine G.any_mark _ ?_; (try generalize Array.size (World.heap (G.w _)) = bk); (try dsimp only [List.set_cons_zero, List.set_cons_succ]); (try clear g); intro g)
  go_loopg [1] (n - i) (fun gk s1 wr => ∃ k : Nat, k + gk = n ∧ i ≤ k ∧ s1 = .int .i64 (k : Int) ∧ Hid (∀ j, i ≤ j → j < k → nd (l.getD j 0) = false) ∧ ∃ g : G w [] [] [heapOf w], wr = g.w)
  case atStart => exact ⟨i, by omega, by omega, rfl, fun j hj hj2 => by omega, g, rfl⟩
  case round =>
    clear g
    obtain ⟨ko, rfl⟩ : ∃ ko : Nat, ko = gk := ⟨_, rfl⟩
    obtain ⟨k, hkg, hik, rfl, HA, g, rfl⟩ := hrel
    by_cases hk : k < n
    · have hki : (k : Int) < (n : Int) := by omega
      have hk0 : (0 : Int) ≤ (k : Int) := by omega
      have hks : k < s.size := by omega
      have hxl : l.getD k 0 < 256 := by
        rw [List.getD_eq_getElem?_getD, List.getElem?_eq_getElem (by omega)]
        exact hlt _ (List.getElem_mem _)
      obtain ⟨x, hx⟩ : ∃ x, l.getD k 0 = x := ⟨_, rfl⟩
      have hsk : ∀ h : k < s.size, ((s[k]'h).toNat : Int) = (x : Int) := fun h => by rw [bl_at s k h, hl, hx]
      rw [hx] at hxl
      have HX := Lib.hid hx
      clear hx
      by_cases hnd : nd x = true
      · have HR : Hid (k = r) := Lib.hid (by
          rw [← hr.out]
          have : dig (l.drop i) = k - i := dig_uniq (by rw [List.length_drop]; omega) (fun j hj => by rw [getD_drop]; exact HA.out _ (by omega) (by omega)) (fun _ => by rw [getD_drop, show i + (k - i) = k by omega, HX.out]; exact hnd)
          omega)
        have hc : x < 48 ∨ (¬ x < 48 ∧ 57 < x) := by have := (nd_iff x).1 hnd; unfold NoDig at this; omega
        clear hnd hr
        rcases hc with h | ⟨h, h'⟩
        · have hd1 : ¬ (48 : Int) ≤ (x : Int) := by omega
          have hd3 : decide ((48 : Int) ≤ (x : Int)) = false := decide_eq_false hd1
          clear h
          go_wp2_with (with_reducible refine G.any_mark _ ?_; (try generalize Array.size (World.heap (G.w _)) = bk); (try dsimp only [List.set_cons_zero, List.set_cons_succ]); (try clear g); intro g)
          go_ret
          exact ⟨by rw [HR.out]; rfl, G.below _⟩
        · have hd1 : (48 : Int) ≤ (x : Int) := by omega
          have hd2 : ¬ (x : Int) ≤ 57 := by omega
          have hd3 : decide ((48 : Int) ≤ (x : Int)) = true := decide_eq_true hd1
          have hd4 : decide ((x : Int) ≤ 57) = false := decide_eq_false hd2
          clear h h'
          go_wp2_with (with_reducible refine G.any_mark _ ?_; (try generalize Array.size (World.heap (G.w _)) = bk); (try dsimp only [List.set_cons_zero, List.set_cons_succ]); (try clear g); intro g)
          go_ret
          exact ⟨by rw [HR.out]; rfl, G.below _⟩
      · have hd1 : (48 : Int) ≤ (x : Int) := by rw [nd_iff] at hnd; unfold NoDig at hnd; omega
        have hd2 : (x : Int) ≤ 57 := by rw [nd_iff] at hnd; unfold NoDig at hnd; omega
        have hd3 : decide ((48 : Int) ≤ (x : Int)) = true := decide_eq_true hd1
        have HND : Hid (nd x = false) := Lib.hid (by simpa using hnd)
        clear hnd
        go_wp2_with (with_reducible refine G.any_mark _ ?_; (try generalize Array.size (World.heap (G.w _)) = bk); (try dsimp only [List.set_cons_zero, List.set_cons_succ]); (try clear g); intro g)
        go_roundg (ko - 1)
        case measure => omega
        case rel => exact ⟨k + 1, by omega, by omega, by go_num, fun j hj hj2 => by
          rcases Nat.lt_or_ge j k with h | h
          · exact HA.out j hj h
          · obtain rfl : j = k := by omega
            rw [HX.out]; exact HND.out, g, rfl⟩
    · have hkn : k = n := by omega
      subst hkn
      have hki : ¬ ((k : Int) < (k : Int)) := by omega
      have HR : Hid (k = r) := Lib.hid (by
        rw [← hr.out]
        have : dig (l.drop i) = k - i := dig_uniq (by rw [List.length_drop]; omega) (fun j hj => by rw [getD_drop]; exact HA.out _ (by omega) (by omega)) (fun h => by rw [List.length_drop] at h; omega)
        omega)
      clear hr
      go_wp2_with (with_reducible refine G.any_mark _ ?_; (try generalize Array.size (World.heap (G.w _)) = bk); (try dsimp only [List.set_cons_zero, List.set_cons_succ]); (try clear g); intro g)
      go_ret
      exact ⟨by rw [HR.out]; rfl, G.below _⟩
theorem fail_any (a b : Int) (w : World) :
    Calls Tryz.prog 70 #[.int .i64 a, .int .i64 b] w fun e w' => e = .returned (.tuple #[.agg #[.bool false, .slice none 0 0, .slice none 0 0], .agg #[.int .i64 a, .int .i64 b]]) ∧ Below w.heap.size w w' := by
  refine calls_b fun g => ?_
  go_enter Tryz.func70, Tryz.ntmps70
  go_wp2_with (with_reducible refine G.any_mark _ ?_; (try generalize Array.size (World.heap (G.w _)) = bk); (try dsimp only [List.set_cons_zero, List.set_cons_succ]); (try clear g); intro g)
  refine bodyPost_ret (v := .tuple #[.agg #[.bool false, .slice none 0 0, .slice none 0 0], .agg #[.int .i64 a, .int .i64 b]]) (by simp [results, Tryz.results70, go_sem]) rfl ?_
  exact ⟨rfl, G.below _⟩
end Go.Proofs.YtjdnpkicdmapnaaGreatDoor
namespace Go.Proofs.YtjdnpkicdmapnaaGreatDoor
open Go.RowKit GW NL
/-- how a string begins -/
def Beg (s : ByteArray) (fr : Nat) : Prop := (fr = 1 ∧ 0 < s.size ∧ (bl s).getD 0 0 = 45) ∨ (fr = 0 ∧ s.size = 0) ∨ (fr = 0 ∧ 0 < s.size ∧ (bl s).getD 0 0 ≠ 45)
theorem byte_at (s : ByteArray) (k x : Nat) (hx : (bl s).getD k 0 = x) : ∀ h : k < s.size, ((s[k]'h).toNat : Int) = (x : Int) := fun h => by rw [bl_at s k h, hx]
theorem bl_extract (s : ByteArray) (a b : Nat) : bl (s.extract a b) = ((bl s).drop a).take (b - a) := by
  unfold bl
  rw [ByteArray.data_extract, Array.toList_extract, List.extract_eq_take_drop, List.map_take, List.map_drop]
set_option maxRecDepth 20000 in
set_option maxHeartbeats 4000000 in
theorem rp_bad0 (s : ByteArray) (fr D e : Nat) (hb : Beg s fr) (hn : s.size ≤ 5000) (hD : dig ((bl s).drop fr) = D) (he : e = fr + D) (w : World) (h0 : D = 0) :
    Calls Tryz.prog 28 #[.string s] w (RPf (11, e, (false, 0, 0)) w) := by
  refine calls_b fun g => ?_
  have hfr : fr ≤ s.size := by unfold Beg at hb; omega
  have hle := dig_le ((bl s).drop fr)
  rw [List.length_drop, bl_len] at hle
  have CD := Lib.hid (fun w => rdigits_any s fr e w (by omega) hfr (Lib.hid (by rw [hD]; exact he.symm)))
  have CF := Lib.hid (fun a b w => fail_any a b w)
  have hb5 : ¬ (5000 : Int) < (s.size : Int) := by omega
  subst h0
  clear hle hD hfr
  rw [Nat.add_zero] at he
  subst he
  rcases hb with ⟨rfl, hp, h45⟩ | ⟨rfl, hp⟩ | ⟨rfl, hp, h45⟩
  · have hs0 := byte_at s 0 45 h45
    have hp2 : (0 : Int) < (s.size : Int) := by omega
    (try simp only [Int.natCast_one] at hw1)
    clear h45
    go_enter Tryz.func28, Tryz.ntmps28
    go_wp2_with (with_reducible refine G.any_mark _ ?_; (try generalize Array.size (World.heap (G.w _)) = bk); (try dsimp only [List.set_cons_zero, List.set_cons_succ]); (try clear g); intro g)
    refine (CD.out _).mono ?_
    rintro e w1 ⟨rfl, hb⟩
    obtain ⟨g1, rfl⟩ := G.call_ex _ hb
    clear hb
    (try clear g)
    revert g1
    intro g
    go_wp2_with (with_reducible refine G.any_mark _ ?_; (try generalize Array.size (World.heap (G.w _)) = bk); (try dsimp only [List.set_cons_zero, List.set_cons_succ]); (try clear g); intro g)
    refine (CF.out _ _ _).mono ?_
    rintro e w1 ⟨rfl, hb⟩
    obtain ⟨g1, rfl⟩ := G.call_ex _ hb
    clear hb
    (try clear g)
    revert g1
    intro g
    go_wp2_with (with_reducible refine G.any_mark _ ?_; (try generalize Array.size (World.heap (G.w _)) = bk); (try dsimp only [List.set_cons_zero, List.set_cons_succ]); (try clear g); intro g)
    refine bodyPost_ret (v := .tuple #[.agg #[.bool false, .slice none 0 0, .slice none 0 0], .agg #[.int .i64 11, .int .i64 _]]) (by simp [results, Tryz.results28, go_sem]; rfl) rfl ?_
    exact rpf_err _ 11 _
  · have hp2 : (s.size : Int) = 0 := by omega
    have hp3 : ¬ (0 : Int) < (s.size : Int) := by omega
    go_enter Tryz.func28, Tryz.ntmps28
    go_wp2_with (with_reducible refine G.any_mark _ ?_; (try generalize Array.size (World.heap (G.w _)) = bk); (try dsimp only [List.set_cons_zero, List.set_cons_succ]); (try clear g); intro g)
    refine (CD.out _).mono ?_
    rintro e w1 ⟨rfl, hb⟩
    obtain ⟨g1, rfl⟩ := G.call_ex _ hb
    clear hb
    (try clear g)
    revert g1
    intro g
    go_wp2_with (with_reducible refine G.any_mark _ ?_; (try generalize Array.size (World.heap (G.w _)) = bk); (try dsimp only [List.set_cons_zero, List.set_cons_succ]); (try clear g); intro g)
    refine (CF.out _ _ _).mono ?_
    rintro e w1 ⟨rfl, hb⟩
    obtain ⟨g1, rfl⟩ := G.call_ex _ hb
    clear hb
    (try clear g)
    revert g1
    intro g
    go_wp2_with (with_reducible refine G.any_mark _ ?_; (try generalize Array.size (World.heap (G.w _)) = bk); (try dsimp only [List.set_cons_zero, List.set_cons_succ]); (try clear g); intro g)
    refine bodyPost_ret (v := .tuple #[.agg #[.bool false, .slice none 0 0, .slice none 0 0], .agg #[.int .i64 11, .int .i64 _]]) (by simp [results, Tryz.results28, go_sem]; rfl) rfl ?_
    exact rpf_err _ 11 _
  · obtain ⟨x, hx⟩ : ∃ x, (bl s).getD 0 0 = x := ⟨_, rfl⟩
    have hs0 := byte_at s 0 x hx
    have hp2 : (0 : Int) < (s.size : Int) := by omega
    have h46 : ((x : Int) == 45) = false := by rw [beq_eq_false_iff_ne]; omega
    (try simp only [Int.natCast_zero, Int.zero_add] at hw1)
    clear h45
    go_enter Tryz.func28, Tryz.ntmps28
    go_wp2_with (with_reducible refine G.any_mark _ ?_; (try generalize Array.size (World.heap (G.w _)) = bk); (try dsimp only [List.set_cons_zero, List.set_cons_succ]); (try clear g); intro g)
    refine (CD.out _).mono ?_
    rintro e w1 ⟨rfl, hb⟩
    obtain ⟨g1, rfl⟩ := G.call_ex _ hb
    clear hb
    (try clear g)
    revert g1
    intro g
    go_wp2_with (with_reducible refine G.any_mark _ ?_; (try generalize Array.size (World.heap (G.w _)) = bk); (try dsimp only [List.set_cons_zero, List.set_cons_succ]); (try clear g); intro g)
    refine (CF.out _ _ _).mono ?_
    rintro e w1 ⟨rfl, hb⟩
    obtain ⟨g1, rfl⟩ := G.call_ex _ hb
    clear hb
    (try clear g)
    revert g1
    intro g
    go_wp2_with (with_reducible refine G.any_mark _ ?_; (try generalize Array.size (World.heap (G.w _)) = bk); (try dsimp only [List.set_cons_zero, List.set_cons_succ]); (try clear g); intro g)
    refine bodyPost_ret (v := .tuple #[.agg #[.bool false, .slice none 0 0, .slice none 0 0], .agg #[.int .i64 11, .int .i64 _]]) (by simp [results, Tryz.results28, go_sem]; rfl) rfl ?_
    exact rpf_err _ 11 _
set_option maxRecDepth 20000 in
set_option maxHeartbeats 4000000 in
theorem rp_bad1 (s : ByteArray) (fr D e : Nat) (hb : Beg s fr) (hn : s.size ≤ 5000) (hD : dig ((bl s).drop fr) = D) (he : e = fr + D) (w : World) (h0 : D ≠ 0) (hlt : e < s.size) (h47 : (bl s).getD e 0 ≠ 47) :
    Calls Tryz.prog 28 #[.string s] w (RPf (11, e, (false, 0, 0)) w) := by
  refine calls_b fun g => ?_
  have hfr : fr ≤ s.size := by unfold Beg at hb; omega
  have hle := dig_le ((bl s).drop fr)
  rw [List.length_drop, bl_len] at hle
  have CD := Lib.hid (fun w => rdigits_any s fr e w (by omega) hfr (Lib.hid (by rw [hD]; exact he.symm)))
  have CF := Lib.hid (fun a b w => fail_any a b w)
  have hb5 : ¬ (5000 : Int) < (s.size : Int) := by omega
  have h00 : s.size ≠ 0 := by omega
  have he0 : ((e : Int) == (fr : Int)) = false := by rw [beq_eq_false_iff_ne]; omega
  obtain ⟨y, hy⟩ : ∃ y, (bl s).getD e 0 = y := ⟨_, rfl⟩
  have hse := byte_at s e y hy
  have hlt2 : (e : Int) < (s.size : Int) := by omega
  have he1 : (0 : Int) ≤ (e : Int) := by omega
  have h48 : ((y : Int) == 47) = false := by rw [beq_eq_false_iff_ne]; omega
  clear hle hD hfr h47 hy h0 he
  rcases hb with ⟨rfl, hp, h45⟩ | ⟨rfl, hp⟩ | ⟨rfl, hp, h45⟩
  · have hs0 := byte_at s 0 45 h45
    have hp2 : (0 : Int) < (s.size : Int) := by omega
    (try simp only [Int.natCast_one] at hw1)
    clear h45
    go_enter Tryz.func28, Tryz.ntmps28
    go_wp2_with (with_reducible refine G.any_mark _ ?_; (try generalize Array.size (World.heap (G.w _)) = bk); (try dsimp only [List.set_cons_zero, List.set_cons_succ]); (try clear g); intro g)
    refine (CD.out _).mono ?_
    rintro e w1 ⟨rfl, hb⟩
    obtain ⟨g1, rfl⟩ := G.call_ex _ hb
    clear hb
    (try clear g)
    revert g1
    intro g
    go_wp2_with (with_reducible refine G.any_mark _ ?_; (try generalize Array.size (World.heap (G.w _)) = bk); (try dsimp only [List.set_cons_zero, List.set_cons_succ]); (try clear g); intro g)
    refine (CF.out _ _ _).mono ?_
    rintro e w1 ⟨rfl, hb⟩
    obtain ⟨g1, rfl⟩ := G.call_ex _ hb
    clear hb
    (try clear g)
    revert g1
    intro g
    go_wp2_with (with_reducible refine G.any_mark _ ?_; (try generalize Array.size (World.heap (G.w _)) = bk); (try dsimp only [List.set_cons_zero, List.set_cons_succ]); (try clear g); intro g)
    refine bodyPost_ret (v := .tuple #[.agg #[.bool false, .slice none 0 0, .slice none 0 0], .agg #[.int .i64 11, .int .i64 _]]) (by simp [results, Tryz.results28, go_sem]; rfl) rfl ?_
    exact rpf_err _ 11 _
  · exact absurd hp h00
  · obtain ⟨x, hx⟩ : ∃ x, (bl s).getD 0 0 = x := ⟨_, rfl⟩
    have hs0 := byte_at s 0 x hx
    have hp2 : (0 : Int) < (s.size : Int) := by omega
    have h46 : ((x : Int) == 45) = false := by rw [beq_eq_false_iff_ne]; omega
    (try simp only [Int.natCast_zero, Int.zero_add] at hw1)
    clear h45
    go_enter Tryz.func28, Tryz.ntmps28
    go_wp2_with (with_reducible refine G.any_mark _ ?_; (try generalize Array.size (World.heap (G.w _)) = bk); (try dsimp only [List.set_cons_zero, List.set_cons_succ]); (try clear g); intro g)
    refine (CD.out _).mono ?_
    rintro e w1 ⟨rfl, hb⟩
    obtain ⟨g1, rfl⟩ := G.call_ex _ hb
    clear hb
    (try clear g)
    revert g1
    intro g
    go_wp2_with (with_reducible refine G.any_mark _ ?_; (try generalize Array.size (World.heap (G.w _)) = bk); (try dsimp only [List.set_cons_zero, List.set_cons_succ]); (try clear g); intro g)
    refine (CF.out _ _ _).mono ?_
    rintro e w1 ⟨rfl, hb⟩
    obtain ⟨g1, rfl⟩ := G.call_ex _ hb
    clear hb
    (try clear g)
    revert g1
    intro g
    go_wp2_with (with_reducible refine G.any_mark _ ?_; (try generalize Array.size (World.heap (G.w _)) = bk); (try dsimp only [List.set_cons_zero, List.set_cons_succ]); (try clear g); intro g)
    refine bodyPost_ret (v := .tuple #[.agg #[.bool false, .slice none 0 0, .slice none 0 0], .agg #[.int .i64 11, .int .i64 _]]) (by simp [results, Tryz.results28, go_sem]; rfl) rfl ?_
    exact rpf_err _ 11 _
set_option maxRecDepth 20000 in
set_option maxHeartbeats 4000000 in
theorem rp_bad2 (s : ByteArray) (fr D e : Nat) (hb : Beg s fr) (hn : s.size ≤ 5000) (hD : dig ((bl s).drop fr) = D) (he : e = fr + D) (w : World) (h0 : D ≠ 0) (hlt : e < s.size) (h47 : (bl s).getD e 0 = 47) (K : Nat) (hK : dig ((bl s).drop (e + 1)) = K) (hbad : K = 0 ∨ e + 1 + K < s.size) :
    Calls Tryz.prog 28 #[.string s] w (RPf (11, e + 1 + K, (false, 0, 0)) w) := by
  refine calls_b fun g => ?_
  have hfr : fr ≤ s.size := by unfold Beg at hb; omega
  have hle := dig_le ((bl s).drop fr)
  rw [List.length_drop, bl_len] at hle
  have CD := Lib.hid (fun w => rdigits_any s fr e w (by omega) hfr (Lib.hid (by rw [hD]; exact he.symm)))
  have CF := Lib.hid (fun a b w => fail_any a b w)
  have hb5 : ¬ (5000 : Int) < (s.size : Int) := by omega
  have h00 : s.size ≠ 0 := by omega
  have he0 : ((e : Int) == (fr : Int)) = false := by rw [beq_eq_false_iff_ne]; omega
  have hse := byte_at s e 47 h47
  have hlt2 : (e : Int) < (s.size : Int) := by omega
  have he1 : (0 : Int) ≤ (e : Int) := by omega
  have hw2 : IntKind.i64.wrap ((e : Int) + 1) = ((e + 1 : Nat) : Int) := by rw [IntKind.wrap_i64]; omega
  have CD2 := Lib.hid (fun w => rdigits_any s (e + 1) (e + 1 + K) w (by omega) (by omega) (Lib.hid (by rw [hK])))
  have hle2 := dig_le ((bl s).drop (e + 1))
  rw [hK, List.length_drop, bl_len] at hle2
  have hcs : (((e + 1 + K : Nat) : Int) == ((e + 1 : Nat) : Int)) = true ∨ ((((e + 1 + K : Nat) : Int) == ((e + 1 : Nat) : Int)) = false ∧ ((e + 1 + K : Nat) : Int) < (s.size : Int)) := by
    by_cases h : K = 0
    · left; rw [h]; simp
    · right; refine ⟨by rw [beq_eq_false_iff_ne]; omega, by omega⟩
  obtain ⟨q, hq⟩ : ∃ q : Int, ((e + 1 + K : Nat) : Int) = q := ⟨_, rfl⟩
  rw [hq] at CD2 hcs
  obtain ⟨q1, hq1⟩ : ∃ q : Int, ((e + 1 : Nat) : Int) = q := ⟨_, rfl⟩
  rw [hq1] at CD2 hcs hw2
  clear hle hD hfr h47 h0 he hK hle2 hbad
  rcases hb with ⟨rfl, hp, h45⟩ | ⟨rfl, hp⟩ | ⟨rfl, hp, h45⟩
  · have hs0 := byte_at s 0 45 h45
    have hp2 : (0 : Int) < (s.size : Int) := by omega
    (try simp only [Int.natCast_one] at hw1)
    clear h45
    rcases hcs with hc1 | ⟨hc1, hc2⟩
    all_goals
      go_enter Tryz.func28, Tryz.ntmps28
      go_wp2_with (with_reducible refine G.any_mark _ ?_; (try generalize Array.size (World.heap (G.w _)) = bk); (try dsimp only [List.set_cons_zero, List.set_cons_succ]); (try clear g); intro g)
      refine (CD.out _).mono ?_
      rintro e w1 ⟨rfl, hb⟩
      obtain ⟨g1, rfl⟩ := G.call_ex _ hb
      clear hb
      (try clear g)
      revert g1
      intro g
      go_wp2_with (with_reducible refine G.any_mark _ ?_; (try generalize Array.size (World.heap (G.w _)) = bk); (try dsimp only [List.set_cons_zero, List.set_cons_succ]); (try clear g); intro g)
      refine (CD2.out _).mono ?_
      rintro e w1 ⟨rfl, hb⟩
      obtain ⟨g1, rfl⟩ := G.call_ex _ hb
      clear hb
      (try clear g)
      revert g1
      intro g
      go_wp2_with (with_reducible refine G.any_mark _ ?_; (try generalize Array.size (World.heap (G.w _)) = bk); (try dsimp only [List.set_cons_zero, List.set_cons_succ]); (try clear g); intro g)
      refine (CF.out _ _ _).mono ?_
      rintro e w1 ⟨rfl, hb⟩
      obtain ⟨g1, rfl⟩ := G.call_ex _ hb
      clear hb
      (try clear g)
      revert g1
      intro g
      go_wp2_with (with_reducible refine G.any_mark _ ?_; (try generalize Array.size (World.heap (G.w _)) = bk); (try dsimp only [List.set_cons_zero, List.set_cons_succ]); (try clear g); intro g)
      refine bodyPost_ret (v := .tuple #[.agg #[.bool false, .slice none 0 0, .slice none 0 0], .agg #[.int .i64 11, .int .i64 q]]) (by simp [results, Tryz.results28, go_sem]) rfl ?_
      subst hq
      exact rpf_err _ 11 _
  · exact absurd hp h00
  · obtain ⟨x, hx⟩ : ∃ x, (bl s).getD 0 0 = x := ⟨_, rfl⟩
    have hs0 := byte_at s 0 x hx
    have hp2 : (0 : Int) < (s.size : Int) := by omega
    have h46 : ((x : Int) == 45) = false := by rw [beq_eq_false_iff_ne]; omega
    (try simp only [Int.natCast_zero, Int.zero_add] at hw1)
    clear h45
    rcases hcs with hc1 | ⟨hc1, hc2⟩
    all_goals
      go_enter Tryz.func28, Tryz.ntmps28
      go_wp2_with (with_reducible refine G.any_mark _ ?_; (try generalize Array.size (World.heap (G.w _)) = bk); (try dsimp only [List.set_cons_zero, List.set_cons_succ]); (try clear g); intro g)
      refine (CD.out _).mono ?_
      rintro e w1 ⟨rfl, hb⟩
      obtain ⟨g1, rfl⟩ := G.call_ex _ hb
      clear hb
      (try clear g)
      revert g1
      intro g
      go_wp2_with (with_reducible refine G.any_mark _ ?_; (try generalize Array.size (World.heap (G.w _)) = bk); (try dsimp only [List.set_cons_zero, List.set_cons_succ]); (try clear g); intro g)
      refine (CD2.out _).mono ?_
      rintro e w1 ⟨rfl, hb⟩
      obtain ⟨g1, rfl⟩ := G.call_ex _ hb
      clear hb
      (try clear g)
      revert g1
      intro g
      go_wp2_with (with_reducible refine G.any_mark _ ?_; (try generalize Array.size (World.heap (G.w _)) = bk); (try dsimp only [List.set_cons_zero, List.set_cons_succ]); (try clear g); intro g)
      refine (CF.out _ _ _).mono ?_
      rintro e w1 ⟨rfl, hb⟩
      obtain ⟨g1, rfl⟩ := G.call_ex _ hb
      clear hb
      (try clear g)
      revert g1
      intro g
      go_wp2_with (with_reducible refine G.any_mark _ ?_; (try generalize Array.size (World.heap (G.w _)) = bk); (try dsimp only [List.set_cons_zero, List.set_cons_succ]); (try clear g); intro g)
      refine bodyPost_ret (v := .tuple #[.agg #[.bool false, .slice none 0 0, .slice none 0 0], .agg #[.int .i64 11, .int .i64 q]]) (by simp [results, Tryz.results28, go_sem]) rfl ?_
      subst hq
      exact rpf_err _ 11 _
set_option maxRecDepth 20000 in
set_option maxHeartbeats 4000000 in
theorem rp_int_err (s : ByteArray) (fr D e : Nat) (hb : Beg s fr) (hn : s.size ≤ 5000) (hD : dig ((bl s).drop fr) = D) (he : e = fr + D) (w : World) (h0 : D ≠ 0) (hlt : e = s.size) (HE1 : (natP (((bl s).drop fr).take D)).1 ≠ 0) :
    Calls Tryz.prog 28 #[.string s] w (RPf ((natP (((bl s).drop fr).take D)).1, fr + (natP (((bl s).drop fr).take D)).2.1, (false, 0, 0)) w) := by
  refine calls_b fun g => ?_
  have hfr : fr ≤ s.size := by unfold Beg at hb; omega
  have hle := dig_le ((bl s).drop fr)
  rw [List.length_drop, bl_len] at hle
  have CD := Lib.hid (fun w => rdigits_any s fr e w (by omega) hfr (Lib.hid (by rw [hD]; exact he.symm)))
  have CF := Lib.hid (fun a b w => fail_any a b w)
  have hb5 : ¬ (5000 : Int) < (s.size : Int) := by omega
  have h00 : s.size ≠ 0 := by omega
  have he0 : ((e : Int) == (fr : Int)) = false := by rw [beq_eq_false_iff_ne]; omega
  have hsub : bl (s.extract fr e) = ((bl s).drop fr).take D := by rw [bl_extract, he, Nat.add_sub_cancel_left]
  have hsz : (s.extract fr e).size = D := by rw [← bl_len, hsub, List.length_take, List.length_drop, bl_len]; omega
  have CN := Lib.hid (fun w => rParse_nat (s.extract fr e) w (by omega) (by omega) (by rw [hsub, hsz, dig_take (by omega) (by rw [List.length_drop, bl_len]; omega)]; exact hD))
  rw [hsub] at CN
  have ha1 := natP_at (((bl s).drop fr).take D)
  have hv1 := natP_val (((bl s).drop fr).take D)
  obtain ⟨⟨er1, at1, v1⟩, hx1⟩ : ∃ x, natP (((bl s).drop fr).take D) = x := ⟨_, rfl⟩
  rw [hx1] at CN HE1 ha1 hv1
  (try rw [hx1])
  have hp1 := natP_err (((bl s).drop fr).take D)
  rw [hx1] at hp1
  dsimp only at CN HE1 ha1 hv1 hp1
  (try dsimp only)
  clear hx1 hsub hsz
  unfold RNF at CN
  have hfe : (fr : Int) ≤ (e : Int) := by omega
  have hen : (e : Int) ≤ (s.size : Int) := by omega
  have hf0 : (0 : Int) ≤ (fr : Int) := by omega
  have hw1 : IntKind.i64.wrap ((fr : Int) + (at1 : Int)) = ((fr + at1 : Nat) : Int) := by rw [IntKind.wrap_i64]; omega
  have hlt2 : ¬ (e : Int) < (s.size : Int) := by omega
  have HEX := HE1
  clear HE1 hle hD hfr h0 he hv1 ha1 hlt
  obtain ⟨q, hqq⟩ : ∃ q : Int, ((fr + at1 : Nat) : Int) = q := ⟨_, rfl⟩
  rw [hqq] at hw1
  rcases hb with ⟨rfl, hp, h45⟩ | ⟨rfl, hp⟩ | ⟨rfl, hp, h45⟩
  · have hs0 := byte_at s 0 45 h45
    have hp2 : (0 : Int) < (s.size : Int) := by omega
    (try simp only [Int.natCast_one] at hw1)
    clear h45
    rcases hp1 with hq | hq | hq | hq
    · exact absurd hq HEX
    all_goals
      subst hq
      clear HEX
      go_enter Tryz.func28, Tryz.ntmps28
      go_wp2_with (with_reducible refine G.any_mark _ ?_; (try generalize Array.size (World.heap (G.w _)) = bk); (try dsimp only [List.set_cons_zero, List.set_cons_succ]); (try clear g); intro g)
      refine (CD.out _).mono ?_
      rintro e w1 ⟨rfl, hb⟩
      obtain ⟨g1, rfl⟩ := G.call_ex _ hb
      clear hb
      (try clear g)
      revert g1
      intro g
      go_wp2_with (with_reducible refine G.any_mark _ ?_; (try generalize Array.size (World.heap (G.w _)) = bk); (try dsimp only [List.set_cons_zero, List.set_cons_succ]); (try clear g); intro g)
      refine (CN.out _).mono ?_
      rintro e w1 ⟨Ap, cp, Fp, rfl, hsp, hn⟩
      have hnnp := fun k o hk => Nat.le_trans g.chg.size (hn.new k o hk)
      obtain ⟨g1, rfl⟩ := G.new_ex _ hn
      clear hn
      (try clear g)
      revert g1
      intro g
      go_wp2_with (with_reducible refine G.any_mark _ ?_; (try generalize Array.size (World.heap (G.w _)) = bk); (try dsimp only [List.set_cons_zero, List.set_cons_succ]); (try clear g); intro g)
      (try (refine cmark _ ?_; (try dsimp only [List.set_cons_zero, List.set_cons_succ]); (try clear g); intro g))
      refine (CF.out _ _ _).mono ?_
      rintro e w1 ⟨rfl, hb⟩
      obtain ⟨g1, rfl⟩ := G.call_ex _ hb
      clear hb
      (try clear g)
      revert g1
      intro g
      go_wp2_with (with_reducible refine G.any_mark _ ?_; (try generalize Array.size (World.heap (G.w _)) = bk); (try dsimp only [List.set_cons_zero, List.set_cons_succ]); (try clear g); intro g)
      refine bodyPost_ret (v := .tuple #[.agg #[.bool false, .slice none 0 0, .slice none 0 0], .agg #[.int .i64 _, .int .i64 q]]) (by simp [results, Tryz.results28, go_sem]; rfl) rfl ?_
      subst hqq
      exact rpf_err _ _ _
  · exact absurd hp h00
  · obtain ⟨x, hx⟩ : ∃ x, (bl s).getD 0 0 = x := ⟨_, rfl⟩
    have hs0 := byte_at s 0 x hx
    have hp2 : (0 : Int) < (s.size : Int) := by omega
    have h46 : ((x : Int) == 45) = false := by rw [beq_eq_false_iff_ne]; omega
    (try simp only [Int.natCast_zero, Int.zero_add] at hw1)
    clear h45
    rcases hp1 with hq | hq | hq | hq
    · exact absurd hq HEX
    all_goals
      subst hq
      clear HEX
      go_enter Tryz.func28, Tryz.ntmps28
      go_wp2_with (with_reducible refine G.any_mark _ ?_; (try generalize Array.size (World.heap (G.w _)) = bk); (try dsimp only [List.set_cons_zero, List.set_cons_succ]); (try clear g); intro g)
      refine (CD.out _).mono ?_
      rintro e w1 ⟨rfl, hb⟩
      obtain ⟨g1, rfl⟩ := G.call_ex _ hb
      clear hb
      (try clear g)
      revert g1
      intro g
      go_wp2_with (with_reducible refine G.any_mark _ ?_; (try generalize Array.size (World.heap (G.w _)) = bk); (try dsimp only [List.set_cons_zero, List.set_cons_succ]); (try clear g); intro g)
      refine (CN.out _).mono ?_
      rintro e w1 ⟨Ap, cp, Fp, rfl, hsp, hn⟩
      have hnnp := fun k o hk => Nat.le_trans g.chg.size (hn.new k o hk)
      obtain ⟨g1, rfl⟩ := G.new_ex _ hn
      clear hn
      (try clear g)
      revert g1
      intro g
      go_wp2_with (with_reducible refine G.any_mark _ ?_; (try generalize Array.size (World.heap (G.w _)) = bk); (try dsimp only [List.set_cons_zero, List.set_cons_succ]); (try clear g); intro g)
      (try (refine cmark _ ?_; (try dsimp only [List.set_cons_zero, List.set_cons_succ]); (try clear g); intro g))
      refine (CF.out _ _ _).mono ?_
      rintro e w1 ⟨rfl, hb⟩
      obtain ⟨g1, rfl⟩ := G.call_ex _ hb
      clear hb
      (try clear g)
      revert g1
      intro g
      go_wp2_with (with_reducible refine G.any_mark _ ?_; (try generalize Array.size (World.heap (G.w _)) = bk); (try dsimp only [List.set_cons_zero, List.set_cons_succ]); (try clear g); intro g)
      refine bodyPost_ret (v := .tuple #[.agg #[.bool false, .slice none 0 0, .slice none 0 0], .agg #[.int .i64 _, .int .i64 q]]) (by simp [results, Tryz.results28, go_sem]; rfl) rfl ?_
      subst hqq
      exact rpf_err _ _ _
theorem frac_whole (neg : Bool) (v : Nat) : rneg (frac neg v 1) = (neg && decide (v ≠ 0)) ∧ rn (frac neg v 1) = v ∧ (frac neg v 1).den = 1 := by
  refine ⟨frac_rneg neg (by decide), ?_, ?_⟩
  · rw [frac_rn neg (by decide), Nat.gcd_one_right, Nat.div_one]
  · rw [frac_den neg (by decide), Nat.gcd_one_right]
set_option maxRecDepth 20000 in
set_option maxHeartbeats 4000000 in
theorem rp_int_ok (s : ByteArray) (fr D e : Nat) (hb : Beg s fr) (hn : s.size ≤ 5000) (hD : dig ((bl s).drop fr) = D) (he : e = fr + D) (w : World) (h0 : D ≠ 0) (hlt : e = s.size) (HE1 : (natP (((bl s).drop fr).take D)).1 = 0) :
    Calls Tryz.prog 28 #[.string s] w (RPf (0, 0, (decide (fr = 1) && decide ((natP (((bl s).drop fr).take D)).2.2 ≠ 0), (natP (((bl s).drop fr).take D)).2.2, 1)) w) := by
  refine calls_b fun g => ?_
  have hfr : fr ≤ s.size := by unfold Beg at hb; omega
  have hle := dig_le ((bl s).drop fr)
  rw [List.length_drop, bl_len] at hle
  have CD := Lib.hid (fun w => rdigits_any s fr e w (by omega) hfr (Lib.hid (by rw [hD]; exact he.symm)))
  have CF := Lib.hid (fun a b w => fail_any a b w)
  have hb5 : ¬ (5000 : Int) < (s.size : Int) := by omega
  have h00 : s.size ≠ 0 := by omega
  have he0 : ((e : Int) == (fr : Int)) = false := by rw [beq_eq_false_iff_ne]; omega
  have hsub : bl (s.extract fr e) = ((bl s).drop fr).take D := by rw [bl_extract, he, Nat.add_sub_cancel_left]
  have hsz : (s.extract fr e).size = D := by rw [← bl_len, hsub, List.length_take, List.length_drop, bl_len]; omega
  have CN := Lib.hid (fun w => rParse_nat (s.extract fr e) w (by omega) (by omega) (by rw [hsub, hsz, dig_take (by omega) (by rw [List.length_drop, bl_len]; omega)]; exact hD))
  rw [hsub] at CN
  have ha1 := natP_at (((bl s).drop fr).take D)
  have hv1 := natP_val (((bl s).drop fr).take D)
  obtain ⟨⟨er1, at1, v1⟩, hx1⟩ : ∃ x, natP (((bl s).drop fr).take D) = x := ⟨_, rfl⟩
  rw [hx1] at CN HE1 ha1 hv1
  (try rw [hx1])
  have hp1 := natP_err (((bl s).drop fr).take D)
  rw [hx1] at hp1
  dsimp only at CN HE1 ha1 hv1 hp1
  (try dsimp only)
  clear hx1 hsub hsz
  unfold RNF at CN
  have hfe : (fr : Int) ≤ (e : Int) := by omega
  have hen : (e : Int) ≤ (s.size : Int) := by omega
  have hf0 : (0 : Int) ≤ (fr : Int) := by omega
  have hw1 : IntKind.i64.wrap ((fr : Int) + (at1 : Int)) = ((fr + at1 : Nat) : Int) := by rw [IntKind.wrap_i64]; omega
  have hlt2 : ¬ (e : Int) < (s.size : Int) := by omega
  have hgt : ¬ (e : Int) < (e : Int) := by omega
  subst HE1
  have CO := Lib.hid rone_any
  unfold RNat at CO
  obtain ⟨f1, f2, f3⟩ := frac_whole (decide (fr = 1)) v1
  have CL := Lib.hid (fun A1 A2 c1 c2 w h1 h2 => rLow_any (decide (fr = 1)) A1 A2 c1 c2 v1 1 w h1 h2 (Nat.le_trans (limbs_256.1 hv1) (by decide)) (by rw [limbs_one (by decide) (by decide)]; decide) (by decide))
  unfold RNf at CL
  rw [f1, f2, f3] at CL
  unfold RPf
  dsimp only
  clear hle hD hfr h0 he hv1 ha1 hp1 f1 f2 f3 hlt
  generalize (decide (fr = 1) && decide (v1 ≠ 0)) = sz at *
  generalize (limbs v1).length = lz at *
  generalize (limbs 1).length = mz at *
  rcases hb with ⟨rfl, hp, h45⟩ | ⟨rfl, hp⟩ | ⟨rfl, hp, h45⟩
  · have hs0 := byte_at s 0 45 h45
    have hp2 : (0 : Int) < (s.size : Int) := by omega
    (try simp only [Int.natCast_one] at hw1)
    clear h45
    go_enter Tryz.func28, Tryz.ntmps28
    go_wp2_with (with_reducible refine G.any_mark _ ?_; (try generalize Array.size (World.heap (G.w _)) = bk); (try dsimp only [List.set_cons_zero, List.set_cons_succ]); (try clear g); intro g)
    refine (CD.out _).mono ?_
    rintro e w1 ⟨rfl, hb⟩
    obtain ⟨g1, rfl⟩ := G.call_ex _ hb
    clear hb
    (try clear g)
    revert g1
    intro g
    go_wp2_with (with_reducible refine G.any_mark _ ?_; (try generalize Array.size (World.heap (G.w _)) = bk); (try dsimp only [List.set_cons_zero, List.set_cons_succ]); (try clear g); intro g)
    refine (CN.out _).mono ?_
    rintro e w1 ⟨Ap, cp, Fp, rfl, hsp, hn⟩
    have hnnp := fun k o hk => Nat.le_trans g.chg.size (hn.new k o hk)
    obtain ⟨g1, rfl⟩ := G.new_ex _ hn
    clear hn
    (try clear g)
    revert g1
    intro g
    go_wp2_with (with_reducible refine G.any_mark _ ?_; (try generalize Array.size (World.heap (G.w _)) = bk); (try dsimp only [List.set_cons_zero, List.set_cons_succ]); (try clear g); intro g)
    (try (refine cmark _ ?_; (try dsimp only [List.set_cons_zero, List.set_cons_succ]); (try clear g); intro g))
    refine (CO.out _).mono ?_
    rintro e w1 ⟨Ao, co, Fo, rfl, hso, hn⟩
    have hnno := fun k o hk => Nat.le_trans g.chg.size (hn.new k o hk)
    obtain ⟨g1, rfl⟩ := G.new_ex _ hn
    clear hn
    (try clear g)
    revert g1
    intro g
    go_wp2_with (with_reducible refine G.any_mark _ ?_; (try generalize Array.size (World.heap (G.w _)) = bk); (try dsimp only [List.set_cons_zero, List.set_cons_succ]); (try clear g); intro g)
    (try (refine cmark _ ?_; (try dsimp only [List.set_cons_zero, List.set_cons_succ]); (try clear g); intro g))
    refine (CL.out _ _ _ _ _ (G.sl g (by simp) hsp) (G.sl g (by simp) hso)).mono ?_
    rintro e w1 ⟨Aq, cq, Fq, Bq, dq, Hq, rfl, hsq, htq, hn, hm⟩
    have hnnq := fun k o hk => Nat.le_trans g.chg.size (hn.new k o hk)
    have hmmq := fun k o hk => Nat.le_trans g.chg.size (hm.new k o hk)
    obtain ⟨g1, rfl⟩ := G.new2_ex _ hn hm
    clear hn hm
    (try clear g)
    revert g1
    intro g
    go_wp2_with (with_reducible refine G.any_mark _ ?_; (try generalize Array.size (World.heap (G.w _)) = bk); (try dsimp only [List.set_cons_zero, List.set_cons_succ]); (try clear g); intro g)
    refine bodyPost_ret (v := .tuple #[.agg #[.bool sz, .slice Aq lz cq, .slice Bq mz dq], .agg #[.int .i64 0, .int .i64 0]]) (by simp [results, Tryz.results28, go_sem]) rfl ?_
    exact ⟨Aq, cq, Fq, Bq, dq, Hq, rfl, hsq, htq, G.pass _ (by simp) hnnq, G.pass _ (by simp) hmmq⟩
  · exact absurd hp h00
  · obtain ⟨x, hx⟩ : ∃ x, (bl s).getD 0 0 = x := ⟨_, rfl⟩
    have hs0 := byte_at s 0 x hx
    have hp2 : (0 : Int) < (s.size : Int) := by omega
    have h46 : ((x : Int) == 45) = false := by rw [beq_eq_false_iff_ne]; omega
    (try simp only [Int.natCast_zero, Int.zero_add] at hw1)
    clear h45
    go_enter Tryz.func28, Tryz.ntmps28
    go_wp2_with (with_reducible refine G.any_mark _ ?_; (try generalize Array.size (World.heap (G.w _)) = bk); (try dsimp only [List.set_cons_zero, List.set_cons_succ]); (try clear g); intro g)
    refine (CD.out _).mono ?_
    rintro e w1 ⟨rfl, hb⟩
    obtain ⟨g1, rfl⟩ := G.call_ex _ hb
    clear hb
    (try clear g)
    revert g1
    intro g
    go_wp2_with (with_reducible refine G.any_mark _ ?_; (try generalize Array.size (World.heap (G.w _)) = bk); (try dsimp only [List.set_cons_zero, List.set_cons_succ]); (try clear g); intro g)
    refine (CN.out _).mono ?_
    rintro e w1 ⟨Ap, cp, Fp, rfl, hsp, hn⟩
    have hnnp := fun k o hk => Nat.le_trans g.chg.size (hn.new k o hk)
    obtain ⟨g1, rfl⟩ := G.new_ex _ hn
    clear hn
    (try clear g)
    revert g1
    intro g
    go_wp2_with (with_reducible refine G.any_mark _ ?_; (try generalize Array.size (World.heap (G.w _)) = bk); (try dsimp only [List.set_cons_zero, List.set_cons_succ]); (try clear g); intro g)
    (try (refine cmark _ ?_; (try dsimp only [List.set_cons_zero, List.set_cons_succ]); (try clear g); intro g))
    refine (CO.out _).mono ?_
    rintro e w1 ⟨Ao, co, Fo, rfl, hso, hn⟩
    have hnno := fun k o hk => Nat.le_trans g.chg.size (hn.new k o hk)
    obtain ⟨g1, rfl⟩ := G.new_ex _ hn
    clear hn
    (try clear g)
    revert g1
    intro g
    go_wp2_with (with_reducible refine G.any_mark _ ?_; (try generalize Array.size (World.heap (G.w _)) = bk); (try dsimp only [List.set_cons_zero, List.set_cons_succ]); (try clear g); intro g)
    (try (refine cmark _ ?_; (try dsimp only [List.set_cons_zero, List.set_cons_succ]); (try clear g); intro g))
    refine (CL.out _ _ _ _ _ (G.sl g (by simp) hsp) (G.sl g (by simp) hso)).mono ?_
    rintro e w1 ⟨Aq, cq, Fq, Bq, dq, Hq, rfl, hsq, htq, hn, hm⟩
    have hnnq := fun k o hk => Nat.le_trans g.chg.size (hn.new k o hk)
    have hmmq := fun k o hk => Nat.le_trans g.chg.size (hm.new k o hk)
    obtain ⟨g1, rfl⟩ := G.new2_ex _ hn hm
    clear hn hm
    (try clear g)
    revert g1
    intro g
    go_wp2_with (with_reducible refine G.any_mark _ ?_; (try generalize Array.size (World.heap (G.w _)) = bk); (try dsimp only [List.set_cons_zero, List.set_cons_succ]); (try clear g); intro g)
    refine bodyPost_ret (v := .tuple #[.agg #[.bool sz, .slice Aq lz cq, .slice Bq mz dq], .agg #[.int .i64 0, .int .i64 0]]) (by simp [results, Tryz.results28, go_sem]) rfl ?_
    exact ⟨Aq, cq, Fq, Bq, dq, Hq, rfl, hsq, htq, G.pass _ (by simp) hnnq, G.pass _ (by simp) hmmq⟩
end Go.Proofs.YtjdnpkicdmapnaaGreatDoor
namespace Go.Proofs.YtjdnpkicdmapnaaGreatDoor
open Go.RowKit GW NL
set_option maxRecDepth 20000 in
set_option maxHeartbeats 4000000 in
theorem rp_num (s : ByteArray) (fr D e : Nat) (hb : Beg s fr) (hn : s.size ≤ 5000) (hD : dig ((bl s).drop fr) = D) (he : e = fr + D) (w : World) (h0 : D ≠ 0) (hlt : e < s.size) (h47 : (bl s).getD e 0 = 47) (K : Nat) (hK : dig ((bl s).drop (e + 1)) = K) (hk0 : K ≠ 0) (hkn : e + 1 + K = s.size) (HE1 : (natP (((bl s).drop fr).take D)).1 ≠ 0) :
    Calls Tryz.prog 28 #[.string s] w (RPf ((natP (((bl s).drop fr).take D)).1, fr + (natP (((bl s).drop fr).take D)).2.1, (false, 0, 0)) w) := by
  refine calls_b fun g => ?_
  have hfr : fr ≤ s.size := by unfold Beg at hb; omega
  have hle := dig_le ((bl s).drop fr)
  rw [List.length_drop, bl_len] at hle
  have CD := Lib.hid (fun w => rdigits_any s fr e w (by omega) hfr (Lib.hid (by rw [hD]; exact he.symm)))
  have CF := Lib.hid (fun a b w => fail_any a b w)
  have hb5 : ¬ (5000 : Int) < (s.size : Int) := by omega
  have h00 : s.size ≠ 0 := by omega
  have he0 : ((e : Int) == (fr : Int)) = false := by rw [beq_eq_false_iff_ne]; omega
  have hse := byte_at s e 47 h47
  have hlt2 : (e : Int) < (s.size : Int) := by omega
  have he1 : (0 : Int) ≤ (e : Int) := by omega
  have hw2 : IntKind.i64.wrap ((e : Int) + 1) = ((e + 1 : Nat) : Int) := by rw [IntKind.wrap_i64]; omega
  have CD2 := Lib.hid (fun w => rdigits_any s (e + 1) (e + 1 + K) w (by omega) (by omega) (Lib.hid (by rw [hK])))
  have hle2 := dig_le ((bl s).drop (e + 1))
  rw [hK, List.length_drop, bl_len] at hle2
  have hb1 : (((e + 1 + K : Nat) : Int) == ((e + 1 : Nat) : Int)) = false := by rw [beq_eq_false_iff_ne]; omega
  have hb2 : ¬ ((e + 1 + K : Nat) : Int) < (s.size : Int) := by omega
  have hb3 : (e : Int) < ((e + 1 + K : Nat) : Int) := by omega
  have hsub : bl (s.extract fr e) = ((bl s).drop fr).take D := by rw [bl_extract, he, Nat.add_sub_cancel_left]
  have hsz : (s.extract fr e).size = D := by rw [← bl_len, hsub, List.length_take, List.length_drop, bl_len]; omega
  have CN := Lib.hid (fun w => rParse_nat (s.extract fr e) w (by omega) (by omega) (by rw [hsub, hsz, dig_take (by omega) (by rw [List.length_drop, bl_len]; omega)]; exact hD))
  rw [hsub] at CN
  have ha1 := natP_at (((bl s).drop fr).take D)
  have hv1 := natP_val (((bl s).drop fr).take D)
  obtain ⟨⟨er1, at1, v1⟩, hx1⟩ : ∃ x, natP (((bl s).drop fr).take D) = x := ⟨_, rfl⟩
  rw [hx1] at CN HE1 ha1 hv1
  (try rw [hx1])
  have hp1 := natP_err (((bl s).drop fr).take D)
  rw [hx1] at hp1
  dsimp only at CN HE1 ha1 hv1 hp1
  (try dsimp only)
  clear hx1 hsub hsz
  unfold RNF at CN
  have hfe : (fr : Int) ≤ (e : Int) := by omega
  have hen : (e : Int) ≤ (s.size : Int) := by omega
  have hf0 : (0 : Int) ≤ (fr : Int) := by omega
  have hw1 : IntKind.i64.wrap ((fr : Int) + (at1 : Int)) = ((fr + at1 : Nat) : Int) := by rw [IntKind.wrap_i64]; omega
  have hck : ∀ z : Nat, z = e + 1 + K → ((z : Nat) : Int) = ((e + 1 + K : Nat) : Int) := fun z h => by rw [h]
  clear hck
  obtain ⟨q9, hq9⟩ : ∃ q : Int, ((e + 1 + K : Nat) : Int) = q := ⟨_, rfl⟩
  rw [hq9] at CD2 hb1 hb2 hb3
  obtain ⟨q8, hq8⟩ : ∃ q : Int, ((e + 1 : Nat) : Int) = q := ⟨_, rfl⟩
  rw [hq8] at CD2 hb1 hw2
  have HEX := HE1
  clear HE1 hle hD hfr h0 he hv1 ha1 hlt hK hle2 h47 hk0 hkn hq9 hq8
  obtain ⟨q, hqq⟩ : ∃ q : Int, ((fr + at1 : Nat) : Int) = q := ⟨_, rfl⟩
  rw [hqq] at hw1
  rcases hb with ⟨rfl, hp, h45⟩ | ⟨rfl, hp⟩ | ⟨rfl, hp, h45⟩
  · have hs0 := byte_at s 0 45 h45
    have hp2 : (0 : Int) < (s.size : Int) := by omega
    (try simp only [Int.natCast_one] at hw1)
    clear h45
    rcases hp1 with hq | hq | hq | hq
    · exact absurd hq HEX
    all_goals
      subst hq
      clear HEX
      go_enter Tryz.func28, Tryz.ntmps28
      go_wp2_with (with_reducible refine G.any_mark _ ?_; (try generalize Array.size (World.heap (G.w _)) = bk); (try dsimp only [List.set_cons_zero, List.set_cons_succ]); (try clear g); intro g)
      refine (CD.out _).mono ?_
      rintro e w1 ⟨rfl, hb⟩
      obtain ⟨g1, rfl⟩ := G.call_ex _ hb
      clear hb
      (try clear g)
      revert g1
      intro g
      go_wp2_with (with_reducible refine G.any_mark _ ?_; (try generalize Array.size (World.heap (G.w _)) = bk); (try dsimp only [List.set_cons_zero, List.set_cons_succ]); (try clear g); intro g)
      refine (CD2.out _).mono ?_
      rintro e w1 ⟨rfl, hb⟩
      obtain ⟨g1, rfl⟩ := G.call_ex _ hb
      clear hb
      (try clear g)
      revert g1
      intro g
      go_wp2_with (with_reducible refine G.any_mark _ ?_; (try generalize Array.size (World.heap (G.w _)) = bk); (try dsimp only [List.set_cons_zero, List.set_cons_succ]); (try clear g); intro g)
      refine (CN.out _).mono ?_
      rintro e w1 ⟨Ap, cp, Fp, rfl, hsp, hn⟩
      have hnnp := fun k o hk => Nat.le_trans g.chg.size (hn.new k o hk)
      obtain ⟨g1, rfl⟩ := G.new_ex _ hn
      clear hn
      (try clear g)
      revert g1
      intro g
      go_wp2_with (with_reducible refine G.any_mark _ ?_; (try generalize Array.size (World.heap (G.w _)) = bk); (try dsimp only [List.set_cons_zero, List.set_cons_succ]); (try clear g); intro g)
      (try (refine cmark _ ?_; (try dsimp only [List.set_cons_zero, List.set_cons_succ]); (try clear g); intro g))
      refine (CF.out _ _ _).mono ?_
      rintro e w1 ⟨rfl, hb⟩
      obtain ⟨g1, rfl⟩ := G.call_ex _ hb
      clear hb
      (try clear g)
      revert g1
      intro g
      go_wp2_with (with_reducible refine G.any_mark _ ?_; (try generalize Array.size (World.heap (G.w _)) = bk); (try dsimp only [List.set_cons_zero, List.set_cons_succ]); (try clear g); intro g)
      refine bodyPost_ret (v := .tuple #[.agg #[.bool false, .slice none 0 0, .slice none 0 0], .agg #[.int .i64 _, .int .i64 q]]) (by simp [results, Tryz.results28, go_sem]; rfl) rfl ?_
      subst hqq
      exact rpf_err _ _ _
  · exact absurd hp h00
  · obtain ⟨x, hx⟩ : ∃ x, (bl s).getD 0 0 = x := ⟨_, rfl⟩
    have hs0 := byte_at s 0 x hx
    have hp2 : (0 : Int) < (s.size : Int) := by omega
    have h46 : ((x : Int) == 45) = false := by rw [beq_eq_false_iff_ne]; omega
    (try simp only [Int.natCast_zero, Int.zero_add] at hw1)
    clear h45
    rcases hp1 with hq | hq | hq | hq
    · exact absurd hq HEX
    all_goals
      subst hq
      clear HEX
      go_enter Tryz.func28, Tryz.ntmps28
      go_wp2_with (with_reducible refine G.any_mark _ ?_; (try generalize Array.size (World.heap (G.w _)) = bk); (try dsimp only [List.set_cons_zero, List.set_cons_succ]); (try clear g); intro g)
      refine (CD.out _).mono ?_
      rintro e w1 ⟨rfl, hb⟩
      obtain ⟨g1, rfl⟩ := G.call_ex _ hb
      clear hb
      (try clear g)
      revert g1
      intro g
      go_wp2_with (with_reducible refine G.any_mark _ ?_; (try generalize Array.size (World.heap (G.w _)) = bk); (try dsimp only [List.set_cons_zero, List.set_cons_succ]); (try clear g); intro g)
      refine (CD2.out _).mono ?_
      rintro e w1 ⟨rfl, hb⟩
      obtain ⟨g1, rfl⟩ := G.call_ex _ hb
      clear hb
      (try clear g)
      revert g1
      intro g
      go_wp2_with (with_reducible refine G.any_mark _ ?_; (try generalize Array.size (World.heap (G.w _)) = bk); (try dsimp only [List.set_cons_zero, List.set_cons_succ]); (try clear g); intro g)
      refine (CN.out _).mono ?_
      rintro e w1 ⟨Ap, cp, Fp, rfl, hsp, hn⟩
      have hnnp := fun k o hk => Nat.le_trans g.chg.size (hn.new k o hk)
      obtain ⟨g1, rfl⟩ := G.new_ex _ hn
      clear hn
      (try clear g)
      revert g1
      intro g
      go_wp2_with (with_reducible refine G.any_mark _ ?_; (try generalize Array.size (World.heap (G.w _)) = bk); (try dsimp only [List.set_cons_zero, List.set_cons_succ]); (try clear g); intro g)
      (try (refine cmark _ ?_; (try dsimp only [List.set_cons_zero, List.set_cons_succ]); (try clear g); intro g))
      refine (CF.out _ _ _).mono ?_
      rintro e w1 ⟨rfl, hb⟩
      obtain ⟨g1, rfl⟩ := G.call_ex _ hb
      clear hb
      (try clear g)
      revert g1
      intro g
      go_wp2_with (with_reducible refine G.any_mark _ ?_; (try generalize Array.size (World.heap (G.w _)) = bk); (try dsimp only [List.set_cons_zero, List.set_cons_succ]); (try clear g); intro g)
      refine bodyPost_ret (v := .tuple #[.agg #[.bool false, .slice none 0 0, .slice none 0 0], .agg #[.int .i64 _, .int .i64 q]]) (by simp [results, Tryz.results28, go_sem]; rfl) rfl ?_
      subst hqq
      exact rpf_err _ _ _
set_option maxRecDepth 20000 in
set_option maxHeartbeats 4000000 in
theorem rp_den (s : ByteArray) (fr D e : Nat) (hb : Beg s fr) (hn : s.size ≤ 5000) (hD : dig ((bl s).drop fr) = D) (he : e = fr + D) (w : World) (h0 : D ≠ 0) (hlt : e < s.size) (h47 : (bl s).getD e 0 = 47) (K : Nat) (hK : dig ((bl s).drop (e + 1)) = K) (hk0 : K ≠ 0) (hkn : e + 1 + K = s.size) (HE1 : (natP (((bl s).drop fr).take D)).1 = 0) (HE2 : (natP ((bl s).drop (e + 1))).1 ≠ 0) :
    Calls Tryz.prog 28 #[.string s] w (RPf ((natP ((bl s).drop (e + 1))).1, e + 1 + (natP ((bl s).drop (e + 1))).2.1, (false, 0, 0)) w) := by
  refine calls_b fun g => ?_
  have hfr : fr ≤ s.size := by unfold Beg at hb; omega
  have hle := dig_le ((bl s).drop fr)
  rw [List.length_drop, bl_len] at hle
  have CD := Lib.hid (fun w => rdigits_any s fr e w (by omega) hfr (Lib.hid (by rw [hD]; exact he.symm)))
  have CF := Lib.hid (fun a b w => fail_any a b w)
  have hb5 : ¬ (5000 : Int) < (s.size : Int) := by omega
  have h00 : s.size ≠ 0 := by omega
  have he0 : ((e : Int) == (fr : Int)) = false := by rw [beq_eq_false_iff_ne]; omega
  have hse := byte_at s e 47 h47
  have hlt2 : (e : Int) < (s.size : Int) := by omega
  have he1 : (0 : Int) ≤ (e : Int) := by omega
  have hw2 : IntKind.i64.wrap ((e : Int) + 1) = ((e + 1 : Nat) : Int) := by rw [IntKind.wrap_i64]; omega
  have CD2 := Lib.hid (fun w => rdigits_any s (e + 1) (e + 1 + K) w (by omega) (by omega) (Lib.hid (by rw [hK])))
  have hle2 := dig_le ((bl s).drop (e + 1))
  rw [hK, List.length_drop, bl_len] at hle2
  have hb1 : (((e + 1 + K : Nat) : Int) == ((e + 1 : Nat) : Int)) = false := by rw [beq_eq_false_iff_ne]; omega
  have hb2 : ¬ ((e + 1 + K : Nat) : Int) < (s.size : Int) := by omega
  have hb3 : (e : Int) < ((e + 1 + K : Nat) : Int) := by omega
  have hsub : bl (s.extract fr e) = ((bl s).drop fr).take D := by rw [bl_extract, he, Nat.add_sub_cancel_left]
  have hsz : (s.extract fr e).size = D := by rw [← bl_len, hsub, List.length_take, List.length_drop, bl_len]; omega
  have CN := Lib.hid (fun w => rParse_nat (s.extract fr e) w (by omega) (by omega) (by rw [hsub, hsz, dig_take (by omega) (by rw [List.length_drop, bl_len]; omega)]; exact hD))
  rw [hsub] at CN
  have ha1 := natP_at (((bl s).drop fr).take D)
  have hv1 := natP_val (((bl s).drop fr).take D)
  obtain ⟨⟨er1, at1, v1⟩, hx1⟩ : ∃ x, natP (((bl s).drop fr).take D) = x := ⟨_, rfl⟩
  rw [hx1] at CN HE1 ha1 hv1
  (try rw [hx1])
  have hp1 := natP_err (((bl s).drop fr).take D)
  rw [hx1] at hp1
  dsimp only at CN HE1 ha1 hv1 hp1
  (try dsimp only)
  clear hx1 hsub hsz
  unfold RNF at CN
  have hfe : (fr : Int) ≤ (e : Int) := by omega
  have hen : (e : Int) ≤ (s.size : Int) := by omega
  have hf0 : (0 : Int) ≤ (fr : Int) := by omega
  have hw1 : IntKind.i64.wrap ((fr : Int) + (at1 : Int)) = ((fr + at1 : Nat) : Int) := by rw [IntKind.wrap_i64]; omega
  have hsub2 : bl (s.extract (e + 1) s.size) = (bl s).drop (e + 1) := by rw [bl_extract, List.take_of_length_le]; rw [List.length_drop, bl_len]; omega
  have hsz2 : (s.extract (e + 1) s.size).size = K := by rw [← bl_len, hsub2, List.length_drop, bl_len]; omega
  have CN2 := Lib.hid (fun w => rParse_nat (s.extract (e + 1) s.size) w (by omega) (by omega) (by rw [hsub2, hsz2]; exact hK))
  rw [hsub2] at CN2
  have ha2 := natP_at ((bl s).drop (e + 1))
  have hv2 := natP_val ((bl s).drop (e + 1))
  obtain ⟨⟨er2, at2, v2⟩, hx2⟩ : ∃ x, natP ((bl s).drop (e + 1)) = x := ⟨_, rfl⟩
  rw [hx2] at CN2 HE2 ha2 hv2
  (try rw [hx2])
  have hp4 := natP_err ((bl s).drop (e + 1))
  rw [hx2] at hp4
  dsimp only at CN2 HE2 ha2 hv2 hp4
  (try dsimp only)
  clear hx2 hsub2 hsz2
  unfold RNF at CN2
  have hw3 : IntKind.i64.wrap (((e + 1 : Nat) : Int) + (at2 : Int)) = ((e + 1 + at2 : Nat) : Int) := by rw [IntKind.wrap_i64]; omega
  have he2n : ((e + 1 : Nat) : Int) ≤ (s.size : Int) := by omega
  have he20 : (0 : Int) ≤ ((e + 1 : Nat) : Int) := by omega
  have hck : ∀ z : Nat, z = e + 1 + K → ((z : Nat) : Int) = ((e + 1 + K : Nat) : Int) := fun z h => by rw [h]
  clear hck
  obtain ⟨q9, hq9⟩ : ∃ q : Int, ((e + 1 + K : Nat) : Int) = q := ⟨_, rfl⟩
  rw [hq9] at CD2 hb1 hb2 hb3
  obtain ⟨q8, hq8⟩ : ∃ q : Int, ((e + 1 : Nat) : Int) = q := ⟨_, rfl⟩
  rw [hq8] at CD2 hb1 hw2 hw3 he2n he20
  have hq8n : e + 1 = q8.toNat := by rw [← hq8]; rfl
  rw [hq8n] at CN2
  clear hq8n
  have CO := Lib.hid rone_any
  unfold RNat at CO
  subst HE1
  have HEX := HE2
  clear hle hD hfr h0 he hv1 ha1 hlt hK hle2 h47 hk0 hkn hq9 hq8 hp1 ha2 HE2 hv2
  obtain ⟨q, hqq⟩ : ∃ q : Int, ((e + 1 + at2 : Nat) : Int) = q := ⟨_, rfl⟩
  rw [hqq] at hw3
  rcases hb with ⟨rfl, hp, h45⟩ | ⟨rfl, hp⟩ | ⟨rfl, hp, h45⟩
  · have hs0 := byte_at s 0 45 h45
    have hp2 : (0 : Int) < (s.size : Int) := by omega
    (try simp only [Int.natCast_one] at hw1)
    clear h45
    rcases hp4 with hq | hq | hq | hq
    · exact absurd hq HEX
    all_goals
      subst hq
      clear HEX
      go_enter Tryz.func28, Tryz.ntmps28
      go_wp2_with (with_reducible refine G.any_mark _ ?_; (try generalize Array.size (World.heap (G.w _)) = bk); (try dsimp only [List.set_cons_zero, List.set_cons_succ]); (try clear g); intro g)
      refine (CD.out _).mono ?_
      rintro e w1 ⟨rfl, hb⟩
      obtain ⟨g1, rfl⟩ := G.call_ex _ hb
      clear hb
      (try clear g)
      revert g1
      intro g
      go_wp2_with (with_reducible refine G.any_mark _ ?_; (try generalize Array.size (World.heap (G.w _)) = bk); (try dsimp only [List.set_cons_zero, List.set_cons_succ]); (try clear g); intro g)
      refine (CD2.out _).mono ?_
      rintro e w1 ⟨rfl, hb⟩
      obtain ⟨g1, rfl⟩ := G.call_ex _ hb
      clear hb
      (try clear g)
      revert g1
      intro g
      go_wp2_with (with_reducible refine G.any_mark _ ?_; (try generalize Array.size (World.heap (G.w _)) = bk); (try dsimp only [List.set_cons_zero, List.set_cons_succ]); (try clear g); intro g)
      refine (CN.out _).mono ?_
      rintro e w1 ⟨Ap, cp, Fp, rfl, hsp, hn⟩
      have hnnp := fun k o hk => Nat.le_trans g.chg.size (hn.new k o hk)
      obtain ⟨g1, rfl⟩ := G.new_ex _ hn
      clear hn
      (try clear g)
      revert g1
      intro g
      go_wp2_with (with_reducible refine G.any_mark _ ?_; (try generalize Array.size (World.heap (G.w _)) = bk); (try dsimp only [List.set_cons_zero, List.set_cons_succ]); (try clear g); intro g)
      (try (refine cmark _ ?_; (try dsimp only [List.set_cons_zero, List.set_cons_succ]); (try clear g); intro g))
      refine (CO.out _).mono ?_
      rintro e w1 ⟨Ao, co, Fo, rfl, hso, hn⟩
      have hnno := fun k o hk => Nat.le_trans g.chg.size (hn.new k o hk)
      obtain ⟨g1, rfl⟩ := G.new_ex _ hn
      clear hn
      (try clear g)
      revert g1
      intro g
      go_wp2_with (with_reducible refine G.any_mark _ ?_; (try generalize Array.size (World.heap (G.w _)) = bk); (try dsimp only [List.set_cons_zero, List.set_cons_succ]); (try clear g); intro g)
      refine (CN2.out _).mono ?_
      rintro e w1 ⟨Ar, cr, Fr, rfl, hsr, hn⟩
      have hnnr := fun k o hk => Nat.le_trans g.chg.size (hn.new k o hk)
      obtain ⟨g1, rfl⟩ := G.new_ex _ hn
      clear hn
      (try clear g)
      revert g1
      intro g
      go_wp2_with (with_reducible refine G.any_mark _ ?_; (try generalize Array.size (World.heap (G.w _)) = bk); (try dsimp only [List.set_cons_zero, List.set_cons_succ]); (try clear g); intro g)
      (try (refine cmark _ ?_; (try dsimp only [List.set_cons_zero, List.set_cons_succ]); (try clear g); intro g))
      refine (CF.out _ _ _).mono ?_
      rintro e w1 ⟨rfl, hb⟩
      obtain ⟨g1, rfl⟩ := G.call_ex _ hb
      clear hb
      (try clear g)
      revert g1
      intro g
      go_wp2_with (with_reducible refine G.any_mark _ ?_; (try generalize Array.size (World.heap (G.w _)) = bk); (try dsimp only [List.set_cons_zero, List.set_cons_succ]); (try clear g); intro g)
      refine bodyPost_ret (v := .tuple #[.agg #[.bool false, .slice none 0 0, .slice none 0 0], .agg #[.int .i64 _, .int .i64 q]]) (by simp [results, Tryz.results28, go_sem]; rfl) rfl ?_
      subst hqq
      exact rpf_err _ _ _
  · exact absurd hp h00
  · obtain ⟨x, hx⟩ : ∃ x, (bl s).getD 0 0 = x := ⟨_, rfl⟩
    have hs0 := byte_at s 0 x hx
    have hp2 : (0 : Int) < (s.size : Int) := by omega
    have h46 : ((x : Int) == 45) = false := by rw [beq_eq_false_iff_ne]; omega
    (try simp only [Int.natCast_zero, Int.zero_add] at hw1)
    clear h45
    rcases hp4 with hq | hq | hq | hq
    · exact absurd hq HEX
    all_goals
      subst hq
      clear HEX
      go_enter Tryz.func28, Tryz.ntmps28
      go_wp2_with (with_reducible refine G.any_mark _ ?_; (try generalize Array.size (World.heap (G.w _)) = bk); (try dsimp only [List.set_cons_zero, List.set_cons_succ]); (try clear g); intro g)
      refine (CD.out _).mono ?_
      rintro e w1 ⟨rfl, hb⟩
      obtain ⟨g1, rfl⟩ := G.call_ex _ hb
      clear hb
      (try clear g)
      revert g1
      intro g
      go_wp2_with (with_reducible refine G.any_mark _ ?_; (try generalize Array.size (World.heap (G.w _)) = bk); (try dsimp only [List.set_cons_zero, List.set_cons_succ]); (try clear g); intro g)
      refine (CD2.out _).mono ?_
      rintro e w1 ⟨rfl, hb⟩
      obtain ⟨g1, rfl⟩ := G.call_ex _ hb
      clear hb
      (try clear g)
      revert g1
      intro g
      go_wp2_with (with_reducible refine G.any_mark _ ?_; (try generalize Array.size (World.heap (G.w _)) = bk); (try dsimp only [List.set_cons_zero, List.set_cons_succ]); (try clear g); intro g)
      refine (CN.out _).mono ?_
      rintro e w1 ⟨Ap, cp, Fp, rfl, hsp, hn⟩
      have hnnp := fun k o hk => Nat.le_trans g.chg.size (hn.new k o hk)
      obtain ⟨g1, rfl⟩ := G.new_ex _ hn
      clear hn
      (try clear g)
      revert g1
      intro g
      go_wp2_with (with_reducible refine G.any_mark _ ?_; (try generalize Array.size (World.heap (G.w _)) = bk); (try dsimp only [List.set_cons_zero, List.set_cons_succ]); (try clear g); intro g)
      (try (refine cmark _ ?_; (try dsimp only [List.set_cons_zero, List.set_cons_succ]); (try clear g); intro g))
      refine (CO.out _).mono ?_
      rintro e w1 ⟨Ao, co, Fo, rfl, hso, hn⟩
      have hnno := fun k o hk => Nat.le_trans g.chg.size (hn.new k o hk)
      obtain ⟨g1, rfl⟩ := G.new_ex _ hn
      clear hn
      (try clear g)
      revert g1
      intro g
      go_wp2_with (with_reducible refine G.any_mark _ ?_; (try generalize Array.size (World.heap (G.w _)) = bk); (try dsimp only [List.set_cons_zero, List.set_cons_succ]); (try clear g); intro g)
      refine (CN2.out _).mono ?_
      rintro e w1 ⟨Ar, cr, Fr, rfl, hsr, hn⟩
      have hnnr := fun k o hk => Nat.le_trans g.chg.size (hn.new k o hk)
      obtain ⟨g1, rfl⟩ := G.new_ex _ hn
      clear hn
      (try clear g)
      revert g1
      intro g
      go_wp2_with (with_reducible refine G.any_mark _ ?_; (try generalize Array.size (World.heap (G.w _)) = bk); (try dsimp only [List.set_cons_zero, List.set_cons_succ]); (try clear g); intro g)
      (try (refine cmark _ ?_; (try dsimp only [List.set_cons_zero, List.set_cons_succ]); (try clear g); intro g))
      refine (CF.out _ _ _).mono ?_
      rintro e w1 ⟨rfl, hb⟩
      obtain ⟨g1, rfl⟩ := G.call_ex _ hb
      clear hb
      (try clear g)
      revert g1
      intro g
      go_wp2_with (with_reducible refine G.any_mark _ ?_; (try generalize Array.size (World.heap (G.w _)) = bk); (try dsimp only [List.set_cons_zero, List.set_cons_succ]); (try clear g); intro g)
      refine bodyPost_ret (v := .tuple #[.agg #[.bool false, .slice none 0 0, .slice none 0 0], .agg #[.int .i64 _, .int .i64 q]]) (by simp [results, Tryz.results28, go_sem]; rfl) rfl ?_
      subst hqq
      exact rpf_err _ _ _
set_option maxRecDepth 20000 in
set_option maxHeartbeats 4000000 in
theorem rp_zero (s : ByteArray) (fr D e : Nat) (hb : Beg s fr) (hn : s.size ≤ 5000) (hD : dig ((bl s).drop fr) = D) (he : e = fr + D) (w : World) (h0 : D ≠ 0) (hlt : e < s.size) (h47 : (bl s).getD e 0 = 47) (K : Nat) (hK : dig ((bl s).drop (e + 1)) = K) (hk0 : K ≠ 0) (hkn : e + 1 + K = s.size) (HE1 : (natP (((bl s).drop fr).take D)).1 = 0) (HE2 : (natP ((bl s).drop (e + 1))).1 = 0) (hz : (natP ((bl s).drop (e + 1))).2.2 = 0) :
    Calls Tryz.prog 28 #[.string s] w (RPf (6, e + 1, (false, 0, 0)) w) := by
  refine calls_b fun g => ?_
  have hfr : fr ≤ s.size := by unfold Beg at hb; omega
  have hle := dig_le ((bl s).drop fr)
  rw [List.length_drop, bl_len] at hle
  have CD := Lib.hid (fun w => rdigits_any s fr e w (by omega) hfr (Lib.hid (by rw [hD]; exact he.symm)))
  have CF := Lib.hid (fun a b w => fail_any a b w)
  have hb5 : ¬ (5000 : Int) < (s.size : Int) := by omega
  have h00 : s.size ≠ 0 := by omega
  have he0 : ((e : Int) == (fr : Int)) = false := by rw [beq_eq_false_iff_ne]; omega
  have hse := byte_at s e 47 h47
  have hlt2 : (e : Int) < (s.size : Int) := by omega
  have he1 : (0 : Int) ≤ (e : Int) := by omega
  have hw2 : IntKind.i64.wrap ((e : Int) + 1) = ((e + 1 : Nat) : Int) := by rw [IntKind.wrap_i64]; omega
  have CD2 := Lib.hid (fun w => rdigits_any s (e + 1) (e + 1 + K) w (by omega) (by omega) (Lib.hid (by rw [hK])))
  have hle2 := dig_le ((bl s).drop (e + 1))
  rw [hK, List.length_drop, bl_len] at hle2
  have hb1 : (((e + 1 + K : Nat) : Int) == ((e + 1 : Nat) : Int)) = false := by rw [beq_eq_false_iff_ne]; omega
  have hb2 : ¬ ((e + 1 + K : Nat) : Int) < (s.size : Int) := by omega
  have hb3 : (e : Int) < ((e + 1 + K : Nat) : Int) := by omega
  have hsub : bl (s.extract fr e) = ((bl s).drop fr).take D := by rw [bl_extract, he, Nat.add_sub_cancel_left]
  have hsz : (s.extract fr e).size = D := by rw [← bl_len, hsub, List.length_take, List.length_drop, bl_len]; omega
  have CN := Lib.hid (fun w => rParse_nat (s.extract fr e) w (by omega) (by omega) (by rw [hsub, hsz, dig_take (by omega) (by rw [List.length_drop, bl_len]; omega)]; exact hD))
  rw [hsub] at CN
  have ha1 := natP_at (((bl s).drop fr).take D)
  have hv1 := natP_val (((bl s).drop fr).take D)
  obtain ⟨⟨er1, at1, v1⟩, hx1⟩ : ∃ x, natP (((bl s).drop fr).take D) = x := ⟨_, rfl⟩
  rw [hx1] at CN HE1 ha1 hv1
  (try rw [hx1])
  have hp1 := natP_err (((bl s).drop fr).take D)
  rw [hx1] at hp1
  dsimp only at CN HE1 ha1 hv1 hp1
  (try dsimp only)
  clear hx1 hsub hsz
  unfold RNF at CN
  have hfe : (fr : Int) ≤ (e : Int) := by omega
  have hen : (e : Int) ≤ (s.size : Int) := by omega
  have hf0 : (0 : Int) ≤ (fr : Int) := by omega
  have hw1 : IntKind.i64.wrap ((fr : Int) + (at1 : Int)) = ((fr + at1 : Nat) : Int) := by rw [IntKind.wrap_i64]; omega
  have hsub2 : bl (s.extract (e + 1) s.size) = (bl s).drop (e + 1) := by rw [bl_extract, List.take_of_length_le]; rw [List.length_drop, bl_len]; omega
  have hsz2 : (s.extract (e + 1) s.size).size = K := by rw [← bl_len, hsub2, List.length_drop, bl_len]; omega
  have CN2 := Lib.hid (fun w => rParse_nat (s.extract (e + 1) s.size) w (by omega) (by omega) (by rw [hsub2, hsz2]; exact hK))
  rw [hsub2] at CN2
  have ha2 := natP_at ((bl s).drop (e + 1))
  have hv2 := natP_val ((bl s).drop (e + 1))
  obtain ⟨⟨er2, at2, v2⟩, hx2⟩ : ∃ x, natP ((bl s).drop (e + 1)) = x := ⟨_, rfl⟩
  rw [hx2] at CN2 HE2 ha2 hv2 hz
  (try rw [hx2])
  have hp4 := natP_err ((bl s).drop (e + 1))
  rw [hx2] at hp4
  dsimp only at CN2 HE2 ha2 hv2 hz hp4
  (try dsimp only)
  clear hx2 hsub2 hsz2
  unfold RNF at CN2
  have hw3 : IntKind.i64.wrap (((e + 1 : Nat) : Int) + (at2 : Int)) = ((e + 1 + at2 : Nat) : Int) := by rw [IntKind.wrap_i64]; omega
  have he2n : ((e + 1 : Nat) : Int) ≤ (s.size : Int) := by omega
  have he20 : (0 : Int) ≤ ((e + 1 : Nat) : Int) := by omega
  have hck : ∀ z : Nat, z = e + 1 + K → ((z : Nat) : Int) = ((e + 1 + K : Nat) : Int) := fun z h => by rw [h]
  clear hck
  obtain ⟨q9, hq9⟩ : ∃ q : Int, ((e + 1 + K : Nat) : Int) = q := ⟨_, rfl⟩
  rw [hq9] at CD2 hb1 hb2 hb3
  obtain ⟨q8, hq8⟩ : ∃ q : Int, ((e + 1 : Nat) : Int) = q := ⟨_, rfl⟩
  rw [hq8] at CD2 hb1 hw2 hw3 he2n he20
  have hq8n : e + 1 = q8.toNat := by rw [← hq8]; rfl
  rw [hq8n] at CN2
  clear hq8n
  have CO := Lib.hid rone_any
  unfold RNat at CO
  subst HE1
  subst HE2
  subst hz
  rw [limbs_len0] at CN2
  have hq8 := hq8
  clear hle hD hfr h0 he hv1 ha1 hlt hK hle2 h47 hk0 hkn hq9 hp1 ha2 hv2
  rcases hb with ⟨rfl, hp, h45⟩ | ⟨rfl, hp⟩ | ⟨rfl, hp, h45⟩
  · have hs0 := byte_at s 0 45 h45
    have hp2 : (0 : Int) < (s.size : Int) := by omega
    (try simp only [Int.natCast_one] at hw1)
    clear h45
    go_enter Tryz.func28, Tryz.ntmps28
    go_wp2_with (with_reducible refine G.any_mark _ ?_; (try generalize Array.size (World.heap (G.w _)) = bk); (try dsimp only [List.set_cons_zero, List.set_cons_succ]); (try clear g); intro g)
    refine (CD.out _).mono ?_
    rintro e w1 ⟨rfl, hb⟩
    obtain ⟨g1, rfl⟩ := G.call_ex _ hb
    clear hb
    (try clear g)
    revert g1
    intro g
    go_wp2_with (with_reducible refine G.any_mark _ ?_; (try generalize Array.size (World.heap (G.w _)) = bk); (try dsimp only [List.set_cons_zero, List.set_cons_succ]); (try clear g); intro g)
    refine (CD2.out _).mono ?_
    rintro e w1 ⟨rfl, hb⟩
    obtain ⟨g1, rfl⟩ := G.call_ex _ hb
    clear hb
    (try clear g)
    revert g1
    intro g
    go_wp2_with (with_reducible refine G.any_mark _ ?_; (try generalize Array.size (World.heap (G.w _)) = bk); (try dsimp only [List.set_cons_zero, List.set_cons_succ]); (try clear g); intro g)
    refine (CN.out _).mono ?_
    rintro e w1 ⟨Ap, cp, Fp, rfl, hsp, hn⟩
    have hnnp := fun k o hk => Nat.le_trans g.chg.size (hn.new k o hk)
    obtain ⟨g1, rfl⟩ := G.new_ex _ hn
    clear hn
    (try clear g)
    revert g1
    intro g
    go_wp2_with (with_reducible refine G.any_mark _ ?_; (try generalize Array.size (World.heap (G.w _)) = bk); (try dsimp only [List.set_cons_zero, List.set_cons_succ]); (try clear g); intro g)
    (try (refine cmark _ ?_; (try dsimp only [List.set_cons_zero, List.set_cons_succ]); (try clear g); intro g))
    refine (CO.out _).mono ?_
    rintro e w1 ⟨Ao, co, Fo, rfl, hso, hn⟩
    have hnno := fun k o hk => Nat.le_trans g.chg.size (hn.new k o hk)
    obtain ⟨g1, rfl⟩ := G.new_ex _ hn
    clear hn
    (try clear g)
    revert g1
    intro g
    go_wp2_with (with_reducible refine G.any_mark _ ?_; (try generalize Array.size (World.heap (G.w _)) = bk); (try dsimp only [List.set_cons_zero, List.set_cons_succ]); (try clear g); intro g)
    refine (CN2.out _).mono ?_
    rintro e w1 ⟨Ar, cr, Fr, rfl, hsr, hn⟩
    have hnnr := fun k o hk => Nat.le_trans g.chg.size (hn.new k o hk)
    obtain ⟨g1, rfl⟩ := G.new_ex _ hn
    clear hn
    (try clear g)
    revert g1
    intro g
    go_wp2_with (with_reducible refine G.any_mark _ ?_; (try generalize Array.size (World.heap (G.w _)) = bk); (try dsimp only [List.set_cons_zero, List.set_cons_succ]); (try clear g); intro g)
    (try (refine cmark _ ?_; (try dsimp only [List.set_cons_zero, List.set_cons_succ]); (try clear g); intro g))
    refine (CF.out _ _ _).mono ?_
    rintro e w1 ⟨rfl, hb⟩
    obtain ⟨g1, rfl⟩ := G.call_ex _ hb
    clear hb
    (try clear g)
    revert g1
    intro g
    go_wp2_with (with_reducible refine G.any_mark _ ?_; (try generalize Array.size (World.heap (G.w _)) = bk); (try dsimp only [List.set_cons_zero, List.set_cons_succ]); (try clear g); intro g)
    refine bodyPost_ret (v := .tuple #[.agg #[.bool false, .slice none 0 0, .slice none 0 0], .agg #[.int .i64 6, .int .i64 q8]]) (by simp [results, Tryz.results28, go_sem]) rfl ?_
    subst hq8
    exact rpf_err _ 6 _
  · exact absurd hp h00
  · obtain ⟨x, hx⟩ : ∃ x, (bl s).getD 0 0 = x := ⟨_, rfl⟩
    have hs0 := byte_at s 0 x hx
    have hp2 : (0 : Int) < (s.size : Int) := by omega
    have h46 : ((x : Int) == 45) = false := by rw [beq_eq_false_iff_ne]; omega
    (try simp only [Int.natCast_zero, Int.zero_add] at hw1)
    clear h45
    go_enter Tryz.func28, Tryz.ntmps28
    go_wp2_with (with_reducible refine G.any_mark _ ?_; (try generalize Array.size (World.heap (G.w _)) = bk); (try dsimp only [List.set_cons_zero, List.set_cons_succ]); (try clear g); intro g)
    refine (CD.out _).mono ?_
    rintro e w1 ⟨rfl, hb⟩
    obtain ⟨g1, rfl⟩ := G.call_ex _ hb
    clear hb
    (try clear g)
    revert g1
    intro g
    go_wp2_with (with_reducible refine G.any_mark _ ?_; (try generalize Array.size (World.heap (G.w _)) = bk); (try dsimp only [List.set_cons_zero, List.set_cons_succ]); (try clear g); intro g)
    refine (CD2.out _).mono ?_
    rintro e w1 ⟨rfl, hb⟩
    obtain ⟨g1, rfl⟩ := G.call_ex _ hb
    clear hb
    (try clear g)
    revert g1
    intro g
    go_wp2_with (with_reducible refine G.any_mark _ ?_; (try generalize Array.size (World.heap (G.w _)) = bk); (try dsimp only [List.set_cons_zero, List.set_cons_succ]); (try clear g); intro g)
    refine (CN.out _).mono ?_
    rintro e w1 ⟨Ap, cp, Fp, rfl, hsp, hn⟩
    have hnnp := fun k o hk => Nat.le_trans g.chg.size (hn.new k o hk)
    obtain ⟨g1, rfl⟩ := G.new_ex _ hn
    clear hn
    (try clear g)
    revert g1
    intro g
    go_wp2_with (with_reducible refine G.any_mark _ ?_; (try generalize Array.size (World.heap (G.w _)) = bk); (try dsimp only [List.set_cons_zero, List.set_cons_succ]); (try clear g); intro g)
    (try (refine cmark _ ?_; (try dsimp only [List.set_cons_zero, List.set_cons_succ]); (try clear g); intro g))
    refine (CO.out _).mono ?_
    rintro e w1 ⟨Ao, co, Fo, rfl, hso, hn⟩
    have hnno := fun k o hk => Nat.le_trans g.chg.size (hn.new k o hk)
    obtain ⟨g1, rfl⟩ := G.new_ex _ hn
    clear hn
    (try clear g)
    revert g1
    intro g
    go_wp2_with (with_reducible refine G.any_mark _ ?_; (try generalize Array.size (World.heap (G.w _)) = bk); (try dsimp only [List.set_cons_zero, List.set_cons_succ]); (try clear g); intro g)
    refine (CN2.out _).mono ?_
    rintro e w1 ⟨Ar, cr, Fr, rfl, hsr, hn⟩
    have hnnr := fun k o hk => Nat.le_trans g.chg.size (hn.new k o hk)
    obtain ⟨g1, rfl⟩ := G.new_ex _ hn
    clear hn
    (try clear g)
    revert g1
    intro g
    go_wp2_with (with_reducible refine G.any_mark _ ?_; (try generalize Array.size (World.heap (G.w _)) = bk); (try dsimp only [List.set_cons_zero, List.set_cons_succ]); (try clear g); intro g)
    (try (refine cmark _ ?_; (try dsimp only [List.set_cons_zero, List.set_cons_succ]); (try clear g); intro g))
    refine (CF.out _ _ _).mono ?_
    rintro e w1 ⟨rfl, hb⟩
    obtain ⟨g1, rfl⟩ := G.call_ex _ hb
    clear hb
    (try clear g)
    revert g1
    intro g
    go_wp2_with (with_reducible refine G.any_mark _ ?_; (try generalize Array.size (World.heap (G.w _)) = bk); (try dsimp only [List.set_cons_zero, List.set_cons_succ]); (try clear g); intro g)
    refine bodyPost_ret (v := .tuple #[.agg #[.bool false, .slice none 0 0, .slice none 0 0], .agg #[.int .i64 6, .int .i64 q8]]) (by simp [results, Tryz.results28, go_sem]) rfl ?_
    subst hq8
    exact rpf_err _ 6 _
set_option maxRecDepth 20000 in
set_option maxHeartbeats 4000000 in
theorem rp_ok (s : ByteArray) (fr D e : Nat) (hb : Beg s fr) (hn : s.size ≤ 5000) (hD : dig ((bl s).drop fr) = D) (he : e = fr + D) (w : World) (h0 : D ≠ 0) (hlt : e < s.size) (h47 : (bl s).getD e 0 = 47) (K : Nat) (hK : dig ((bl s).drop (e + 1)) = K) (hk0 : K ≠ 0) (hkn : e + 1 + K = s.size) (HE1 : (natP (((bl s).drop fr).take D)).1 = 0) (HE2 : (natP ((bl s).drop (e + 1))).1 = 0) (hz : (natP ((bl s).drop (e + 1))).2.2 ≠ 0) :
    Calls Tryz.prog 28 #[.string s] w (RPf (0, 0, (rneg (frac (decide (fr = 1)) (natP (((bl s).drop fr).take D)).2.2 (natP ((bl s).drop (e + 1))).2.2), rn (frac (decide (fr = 1)) (natP (((bl s).drop fr).take D)).2.2 (natP ((bl s).drop (e + 1))).2.2), (frac (decide (fr = 1)) (natP (((bl s).drop fr).take D)).2.2 (natP ((bl s).drop (e + 1))).2.2).den)) w) := by
  refine calls_b fun g => ?_
  have hfr : fr ≤ s.size := by unfold Beg at hb; omega
  have hle := dig_le ((bl s).drop fr)
  rw [List.length_drop, bl_len] at hle
  have CD := Lib.hid (fun w => rdigits_any s fr e w (by omega) hfr (Lib.hid (by rw [hD]; exact he.symm)))
  have CF := Lib.hid (fun a b w => fail_any a b w)
  have hb5 : ¬ (5000 : Int) < (s.size : Int) := by omega
  have h00 : s.size ≠ 0 := by omega
  have he0 : ((e : Int) == (fr : Int)) = false := by rw [beq_eq_false_iff_ne]; omega
  have hse := byte_at s e 47 h47
  have hlt2 : (e : Int) < (s.size : Int) := by omega
  have he1 : (0 : Int) ≤ (e : Int) := by omega
  have hw2 : IntKind.i64.wrap ((e : Int) + 1) = ((e + 1 : Nat) : Int) := by rw [IntKind.wrap_i64]; omega
  have CD2 := Lib.hid (fun w => rdigits_any s (e + 1) (e + 1 + K) w (by omega) (by omega) (Lib.hid (by rw [hK])))
  have hle2 := dig_le ((bl s).drop (e + 1))
  rw [hK, List.length_drop, bl_len] at hle2
  have hb1 : (((e + 1 + K : Nat) : Int) == ((e + 1 : Nat) : Int)) = false := by rw [beq_eq_false_iff_ne]; omega
  have hb2 : ¬ ((e + 1 + K : Nat) : Int) < (s.size : Int) := by omega
  have hb3 : (e : Int) < ((e + 1 + K : Nat) : Int) := by omega
  have hsub : bl (s.extract fr e) = ((bl s).drop fr).take D := by rw [bl_extract, he, Nat.add_sub_cancel_left]
  have hsz : (s.extract fr e).size = D := by rw [← bl_len, hsub, List.length_take, List.length_drop, bl_len]; omega
  have CN := Lib.hid (fun w => rParse_nat (s.extract fr e) w (by omega) (by omega) (by rw [hsub, hsz, dig_take (by omega) (by rw [List.length_drop, bl_len]; omega)]; exact hD))
  rw [hsub] at CN
  have ha1 := natP_at (((bl s).drop fr).take D)
  have hv1 := natP_val (((bl s).drop fr).take D)
  obtain ⟨⟨er1, at1, v1⟩, hx1⟩ : ∃ x, natP (((bl s).drop fr).take D) = x := ⟨_, rfl⟩
  rw [hx1] at CN HE1 ha1 hv1
  (try rw [hx1])
  have hp1 := natP_err (((bl s).drop fr).take D)
  rw [hx1] at hp1
  dsimp only at CN HE1 ha1 hv1 hp1
  (try dsimp only)
  clear hx1 hsub hsz
  unfold RNF at CN
  have hfe : (fr : Int) ≤ (e : Int) := by omega
  have hen : (e : Int) ≤ (s.size : Int) := by omega
  have hf0 : (0 : Int) ≤ (fr : Int) := by omega
  have hw1 : IntKind.i64.wrap ((fr : Int) + (at1 : Int)) = ((fr + at1 : Nat) : Int) := by rw [IntKind.wrap_i64]; omega
  have hsub2 : bl (s.extract (e + 1) s.size) = (bl s).drop (e + 1) := by rw [bl_extract, List.take_of_length_le]; rw [List.length_drop, bl_len]; omega
  have hsz2 : (s.extract (e + 1) s.size).size = K := by rw [← bl_len, hsub2, List.length_drop, bl_len]; omega
  have CN2 := Lib.hid (fun w => rParse_nat (s.extract (e + 1) s.size) w (by omega) (by omega) (by rw [hsub2, hsz2]; exact hK))
  rw [hsub2] at CN2
  have ha2 := natP_at ((bl s).drop (e + 1))
  have hv2 := natP_val ((bl s).drop (e + 1))
  obtain ⟨⟨er2, at2, v2⟩, hx2⟩ : ∃ x, natP ((bl s).drop (e + 1)) = x := ⟨_, rfl⟩
  rw [hx2] at CN2 HE2 ha2 hv2 hz
  (try rw [hx2])
  have hp4 := natP_err ((bl s).drop (e + 1))
  rw [hx2] at hp4
  dsimp only at CN2 HE2 ha2 hv2 hz hp4
  (try dsimp only)
  clear hx2 hsub2 hsz2
  unfold RNF at CN2
  have hw3 : IntKind.i64.wrap (((e + 1 : Nat) : Int) + (at2 : Int)) = ((e + 1 + at2 : Nat) : Int) := by rw [IntKind.wrap_i64]; omega
  have he2n : ((e + 1 : Nat) : Int) ≤ (s.size : Int) := by omega
  have he20 : (0 : Int) ≤ ((e + 1 : Nat) : Int) := by omega
  have hck : ∀ z : Nat, z = e + 1 + K → ((z : Nat) : Int) = ((e + 1 + K : Nat) : Int) := fun z h => by rw [h]
  clear hck
  obtain ⟨q9, hq9⟩ : ∃ q : Int, ((e + 1 + K : Nat) : Int) = q := ⟨_, rfl⟩
  rw [hq9] at CD2 hb1 hb2 hb3
  obtain ⟨q8, hq8⟩ : ∃ q : Int, ((e + 1 : Nat) : Int) = q := ⟨_, rfl⟩
  rw [hq8] at CD2 hb1 hw2 hw3 he2n he20
  have hq8n : e + 1 = q8.toNat := by rw [← hq8]; rfl
  rw [hq8n] at CN2
  clear hq8n
  have CO := Lib.hid rone_any
  unfold RNat at CO
  subst HE1
  subst HE2
  have CL := Lib.hid (fun A1 A2 c1 c2 w h1 h2 => rLow_any (decide (fr = 1)) A1 A2 c1 c2 v1 v2 w h1 h2 (Nat.le_trans (limbs_256.1 hv1) (by decide)) (Nat.le_trans (limbs_256.1 hv2) (by decide)) hz)
  have hl2 : ((((limbs v2).length : Nat) : Int) == 0) = false := by
    have := (limbs_ne hz).2
    rw [beq_eq_false_iff_ne]; omega
  unfold RNf at CL
  unfold RPf
  dsimp only
  clear hle hD hfr h0 he hv1 ha1 hlt hK hle2 h47 hk0 hkn hq9 hq8 hp1 ha2 hv2 hz
  generalize frac (decide (fr = 1)) v1 v2 = z at *
  generalize (limbs v1).length = lv at *
  generalize (limbs v2).length = mv at *
  generalize rneg z = sz at *
  generalize (limbs (rn z)).length = lz at *
  generalize (limbs z.den).length = mz at *
  rcases hb with ⟨rfl, hp, h45⟩ | ⟨rfl, hp⟩ | ⟨rfl, hp, h45⟩
  · have hs0 := byte_at s 0 45 h45
    have hp2 : (0 : Int) < (s.size : Int) := by omega
    (try simp only [Int.natCast_one] at hw1)
    clear h45
    go_enter Tryz.func28, Tryz.ntmps28
    go_wp2_with (with_reducible refine G.any_mark _ ?_; (try generalize Array.size (World.heap (G.w _)) = bk); (try dsimp only [List.set_cons_zero, List.set_cons_succ]); (try clear g); intro g)
    refine (CD.out _).mono ?_
    rintro e w1 ⟨rfl, hb⟩
    obtain ⟨g1, rfl⟩ := G.call_ex _ hb
    clear hb
    (try clear g)
    revert g1
    intro g
    go_wp2_with (with_reducible refine G.any_mark _ ?_; (try generalize Array.size (World.heap (G.w _)) = bk); (try dsimp only [List.set_cons_zero, List.set_cons_succ]); (try clear g); intro g)
    refine (CD2.out _).mono ?_
    rintro e w1 ⟨rfl, hb⟩
    obtain ⟨g1, rfl⟩ := G.call_ex _ hb
    clear hb
    (try clear g)
    revert g1
    intro g
    go_wp2_with (with_reducible refine G.any_mark _ ?_; (try generalize Array.size (World.heap (G.w _)) = bk); (try dsimp only [List.set_cons_zero, List.set_cons_succ]); (try clear g); intro g)
    refine (CN.out _).mono ?_
    rintro e w1 ⟨Ap, cp, Fp, rfl, hsp, hn⟩
    have hnnp := fun k o hk => Nat.le_trans g.chg.size (hn.new k o hk)
    obtain ⟨g1, rfl⟩ := G.new_ex _ hn
    clear hn
    (try clear g)
    revert g1
    intro g
    go_wp2_with (with_reducible refine G.any_mark _ ?_; (try generalize Array.size (World.heap (G.w _)) = bk); (try dsimp only [List.set_cons_zero, List.set_cons_succ]); (try clear g); intro g)
    (try (refine cmark _ ?_; (try dsimp only [List.set_cons_zero, List.set_cons_succ]); (try clear g); intro g))
    refine (CO.out _).mono ?_
    rintro e w1 ⟨Ao, co, Fo, rfl, hso, hn⟩
    have hnno := fun k o hk => Nat.le_trans g.chg.size (hn.new k o hk)
    obtain ⟨g1, rfl⟩ := G.new_ex _ hn
    clear hn
    (try clear g)
    revert g1
    intro g
    go_wp2_with (with_reducible refine G.any_mark _ ?_; (try generalize Array.size (World.heap (G.w _)) = bk); (try dsimp only [List.set_cons_zero, List.set_cons_succ]); (try clear g); intro g)
    refine (CN2.out _).mono ?_
    rintro e w1 ⟨Ar, cr, Fr, rfl, hsr, hn⟩
    have hnnr := fun k o hk => Nat.le_trans g.chg.size (hn.new k o hk)
    obtain ⟨g1, rfl⟩ := G.new_ex _ hn
    clear hn
    (try clear g)
    revert g1
    intro g
    go_wp2_with (with_reducible refine G.any_mark _ ?_; (try generalize Array.size (World.heap (G.w _)) = bk); (try dsimp only [List.set_cons_zero, List.set_cons_succ]); (try clear g); intro g)
    (try (refine cmark _ ?_; (try dsimp only [List.set_cons_zero, List.set_cons_succ]); (try clear g); intro g))
    refine (CL.out _ _ _ _ _ (G.sl g (by simp) hsp) (G.sl g (by simp) hsr)).mono ?_
    rintro e w1 ⟨Aq, cq, Fq, Bq, dq, Hq, rfl, hsq, htq, hn, hm⟩
    have hnnq := fun k o hk => Nat.le_trans g.chg.size (hn.new k o hk)
    have hmmq := fun k o hk => Nat.le_trans g.chg.size (hm.new k o hk)
    obtain ⟨g1, rfl⟩ := G.new2_ex _ hn hm
    clear hn hm
    (try clear g)
    revert g1
    intro g
    go_wp2_with (with_reducible refine G.any_mark _ ?_; (try generalize Array.size (World.heap (G.w _)) = bk); (try dsimp only [List.set_cons_zero, List.set_cons_succ]); (try clear g); intro g)
    refine bodyPost_ret (v := .tuple #[.agg #[.bool sz, .slice Aq lz cq, .slice Bq mz dq], .agg #[.int .i64 0, .int .i64 0]]) (by simp [results, Tryz.results28, go_sem]) rfl ?_
    exact ⟨Aq, cq, Fq, Bq, dq, Hq, rfl, hsq, htq, G.pass _ (by simp) hnnq, G.pass _ (by simp) hmmq⟩
  · exact absurd hp h00
  · obtain ⟨x, hx⟩ : ∃ x, (bl s).getD 0 0 = x := ⟨_, rfl⟩
    have hs0 := byte_at s 0 x hx
    have hp2 : (0 : Int) < (s.size : Int) := by omega
    have h46 : ((x : Int) == 45) = false := by rw [beq_eq_false_iff_ne]; omega
    (try simp only [Int.natCast_zero, Int.zero_add] at hw1)
    clear h45
    go_enter Tryz.func28, Tryz.ntmps28
    go_wp2_with (with_reducible refine G.any_mark _ ?_; (try generalize Array.size (World.heap (G.w _)) = bk); (try dsimp only [List.set_cons_zero, List.set_cons_succ]); (try clear g); intro g)
    refine (CD.out _).mono ?_
    rintro e w1 ⟨rfl, hb⟩
    obtain ⟨g1, rfl⟩ := G.call_ex _ hb
    clear hb
    (try clear g)
    revert g1
    intro g
    go_wp2_with (with_reducible refine G.any_mark _ ?_; (try generalize Array.size (World.heap (G.w _)) = bk); (try dsimp only [List.set_cons_zero, List.set_cons_succ]); (try clear g); intro g)
    refine (CD2.out _).mono ?_
    rintro e w1 ⟨rfl, hb⟩
    obtain ⟨g1, rfl⟩ := G.call_ex _ hb
    clear hb
    (try clear g)
    revert g1
    intro g
    go_wp2_with (with_reducible refine G.any_mark _ ?_; (try generalize Array.size (World.heap (G.w _)) = bk); (try dsimp only [List.set_cons_zero, List.set_cons_succ]); (try clear g); intro g)
    refine (CN.out _).mono ?_
    rintro e w1 ⟨Ap, cp, Fp, rfl, hsp, hn⟩
    have hnnp := fun k o hk => Nat.le_trans g.chg.size (hn.new k o hk)
    obtain ⟨g1, rfl⟩ := G.new_ex _ hn
    clear hn
    (try clear g)
    revert g1
    intro g
    go_wp2_with (with_reducible refine G.any_mark _ ?_; (try generalize Array.size (World.heap (G.w _)) = bk); (try dsimp only [List.set_cons_zero, List.set_cons_succ]); (try clear g); intro g)
    (try (refine cmark _ ?_; (try dsimp only [List.set_cons_zero, List.set_cons_succ]); (try clear g); intro g))
    refine (CO.out _).mono ?_
    rintro e w1 ⟨Ao, co, Fo, rfl, hso, hn⟩
    have hnno := fun k o hk => Nat.le_trans g.chg.size (hn.new k o hk)
    obtain ⟨g1, rfl⟩ := G.new_ex _ hn
    clear hn
    (try clear g)
    revert g1
    intro g
    go_wp2_with (with_reducible refine G.any_mark _ ?_; (try generalize Array.size (World.heap (G.w _)) = bk); (try dsimp only [List.set_cons_zero, List.set_cons_succ]); (try clear g); intro g)
    refine (CN2.out _).mono ?_
    rintro e w1 ⟨Ar, cr, Fr, rfl, hsr, hn⟩
    have hnnr := fun k o hk => Nat.le_trans g.chg.size (hn.new k o hk)
    obtain ⟨g1, rfl⟩ := G.new_ex _ hn
    clear hn
    (try clear g)
    revert g1
    intro g
    go_wp2_with (with_reducible refine G.any_mark _ ?_; (try generalize Array.size (World.heap (G.w _)) = bk); (try dsimp only [List.set_cons_zero, List.set_cons_succ]); (try clear g); intro g)
    (try (refine cmark _ ?_; (try dsimp only [List.set_cons_zero, List.set_cons_succ]); (try clear g); intro g))
    refine (CL.out _ _ _ _ _ (G.sl g (by simp) hsp) (G.sl g (by simp) hsr)).mono ?_
    rintro e w1 ⟨Aq, cq, Fq, Bq, dq, Hq, rfl, hsq, htq, hn, hm⟩
    have hnnq := fun k o hk => Nat.le_trans g.chg.size (hn.new k o hk)
    have hmmq := fun k o hk => Nat.le_trans g.chg.size (hm.new k o hk)
    obtain ⟨g1, rfl⟩ := G.new2_ex _ hn hm
    clear hn hm
    (try clear g)
    revert g1
    intro g
    go_wp2_with (with_reducible refine G.any_mark _ ?_; (try generalize Array.size (World.heap (G.w _)) = bk); (try dsimp only [List.set_cons_zero, List.set_cons_succ]); (try clear g); intro g)
    refine bodyPost_ret (v := .tuple #[.agg #[.bool sz, .slice Aq lz cq, .slice Bq mz dq], .agg #[.int .i64 0, .int .i64 0]]) (by simp [results, Tryz.results28, go_sem]) rfl ?_
    exact ⟨Aq, cq, Fq, Bq, dq, Hq, rfl, hsq, htq, G.pass _ (by simp) hnnq, G.pass _ (by simp) hmmq⟩
end Go.Proofs.YtjdnpkicdmapnaaGreatDoor
namespace Go.Proofs.YtjdnpkicdmapnaaGreatDoor
open Go.RowKit GW NL
set_option maxRecDepth 20000 in
set_option maxHeartbeats 4000000 in
theorem rp_long (s : ByteArray) (w : World) (hl : 5000 < s.size) :
    Calls Tryz.prog 28 #[.string s] w (RPf (4, 5000, (false, 0, 0)) w) := by
  refine calls_b fun g => ?_
  have CF := Lib.hid (fun a b w => fail_any a b w)
  have hb5 : (5000 : Int) < (s.size : Int) := by omega
  clear hl
  go_enter Tryz.func28, Tryz.ntmps28
  go_wp2_with (with_reducible refine G.any_mark _ ?_; (try generalize Array.size (World.heap (G.w _)) = bk); (try dsimp only [List.set_cons_zero, List.set_cons_succ]); (try clear g); intro g)
  refine (CF.out _ _ _).mono ?_
  rintro e w1 ⟨rfl, hb⟩
  obtain ⟨g1, rfl⟩ := G.call_ex _ hb
  clear hb
  (try clear g)
  revert g1
  intro g
  go_wp2_with (with_reducible refine G.any_mark _ ?_; (try generalize Array.size (World.heap (G.w _)) = bk); (try dsimp only [List.set_cons_zero, List.set_cons_succ]); (try clear g); intro g)
  refine bodyPost_ret (v := .tuple #[.agg #[.bool false, .slice none 0 0, .slice none 0 0], .agg #[.int .i64 4, .int .i64 5000]]) (by simp [results, Tryz.results28, go_sem]) rfl ?_
  exact rpf_err _ 4 5000
theorem rp_r (s : ByteArray) (fr : Nat) (hb : Beg s fr) (hn : s.size ≤ 5000) (w : World) :
    Calls Tryz.prog 28 #[.string s] w (RPf (resP (decide (fr = 1)) fr ((bl s).drop fr)) w) := by
  obtain ⟨D, hD⟩ : ∃ D, dig ((bl s).drop fr) = D := ⟨_, rfl⟩
  obtain ⟨e, he⟩ : ∃ e, e = fr + D := ⟨_, rfl⟩
  have hfr : fr ≤ s.size := by unfold Beg at hb; omega
  have hle := dig_le ((bl s).drop fr)
  have hln : ((bl s).drop fr).length = s.size - fr := by rw [List.length_drop, bl_len]
  rw [hln, hD] at hle
  have hdd : ((bl s).drop fr).drop (D + 1) = (bl s).drop (e + 1) := by rw [List.drop_drop]; congr 1; omega
  have hg : ((bl s).drop fr).getD D 0 = (bl s).getD e 0 := by rw [getD_drop, he]
  have hl2 : ((bl s).drop (e + 1)).length = s.size - (e + 1) := by rw [List.length_drop, bl_len]
  have hk2 := dig_le ((bl s).drop (e + 1))
  unfold resP
  rw [hD, hln, hg, hdd, hl2, show fr + D = e from he.symm]
  by_cases h0 : D = 0
  · rw [if_pos h0]
    have h1 := rp_bad0 s fr D e hb hn hD he w h0
    rw [show e = fr by omega] at h1
    exact h1
  rw [if_neg h0]
  by_cases hlt : e < s.size
  · rw [if_pos (by omega)]
    by_cases h47 : (bl s).getD e 0 = 47
    · rw [if_neg (by simpa using h47)]
      obtain ⟨K, hK⟩ : ∃ K, dig ((bl s).drop (e + 1)) = K := ⟨_, rfl⟩
      rw [hK, hl2] at hk2
      rw [hK]
      by_cases hbad : K = 0 ∨ e + 1 + K < s.size
      · rw [if_pos (by omega)]
        exact rp_bad2 s fr D e hb hn hD he w h0 hlt h47 K hK hbad
      · rw [if_neg (by omega)]
        by_cases e1 : (natP (((bl s).drop fr).take D)).1 = 0
        · rw [if_neg (by simpa using e1)]
          by_cases e2 : (natP ((bl s).drop (e + 1))).1 = 0
          · rw [if_neg (by simpa using e2)]
            by_cases e3 : (natP ((bl s).drop (e + 1))).2.2 = 0
            · rw [if_pos e3]
              exact rp_zero s fr D e hb hn hD he w h0 hlt h47 K hK (by omega) (by omega) e1 e2 e3
            · rw [if_neg e3]
              exact rp_ok s fr D e hb hn hD he w h0 hlt h47 K hK (by omega) (by omega) e1 e2 e3
          · rw [if_pos e2]
            exact rp_den s fr D e hb hn hD he w h0 hlt h47 K hK (by omega) (by omega) e1 e2
        · rw [if_pos e1]
          exact rp_num s fr D e hb hn hD he w h0 hlt h47 K hK (by omega) (by omega) e1
    · rw [if_pos h47]
      exact rp_bad1 s fr D e hb hn hD he w h0 hlt h47
  · rw [if_neg (by omega)]
    have ht : ((bl s).drop fr).take D = (bl s).drop fr := List.take_of_length_le (by omega)
    by_cases e1 : (natP ((bl s).drop fr)).1 = 0
    · rw [if_neg (by simpa using e1)]
      have h1 := rp_int_ok s fr D e hb hn hD he w h0 (by omega) (by rw [ht]; exact e1)
      rw [ht] at h1
      exact h1
    · rw [if_pos e1]
      have h1 := rp_int_err s fr D e hb hn hD he w h0 (by omega) (by rw [ht]; exact e1)
      rw [ht] at h1
      exact h1
theorem rParse_any (s : ByteArray) (w : World) :
    Calls Tryz.prog 28 #[.string s] w (RPf (parP (bl s)) w) := by
  unfold parP
  rw [bl_len]
  by_cases hl : 5000 < s.size
  · rw [if_pos hl]; exact rp_long s w hl
  · rw [if_neg hl]
    by_cases h : (bl s).getD 0 0 = 45
    · rw [if_pos h]
      have h0 : 0 < s.size := by
        rcases Nat.eq_zero_or_pos s.size with h0 | h0
        · rw [← bl_len] at h0
          rw [List.eq_nil_of_length_eq_zero h0] at h; cases h
        · exact h0
      exact rp_r s 1 (.inl ⟨rfl, h0, h⟩) (by omega) w
    · rw [if_neg h]
      have hb : Beg s 0 := by
        rcases Nat.eq_zero_or_pos s.size with h0 | h0
        · exact .inr (.inl ⟨rfl, h0⟩)
        · exact .inr (.inr ⟨rfl, h0, h⟩)
      exact rp_r s 0 hb (by omega) w
end Go.Proofs.YtjdnpkicdmapnaaGreatDoor
