/- Plain facts and contracts of functions of the program, out of walks. Their conditions stand ahead of each. -/
import Derived.Test.YtodigegjngnknaaDe2
import Derived.Test.YtodigegjngnknaaDe3
import Derived.Test.YtodigegjngnknaaDe6
import Derived.Test.YtodigegjngnknaaDe8
import Derived.Test.YtodigegjngnknaaDe10
import Derived.Test.YtodigegjngnknaaDe30
import Derived.Test.YtodigegjngnknaaDe31
import Derived.Below
import Derived.BigQuiet
import Derived.Deep.Draws
import Derived.Deep.LoopGhost
import Derived.Deep.QuietTactic
import Derived.Deep.RegionHeld3
import Derived.Defers
import Derived.Laws.BytesString
import Derived.Laws.Cells
import Derived.Laws.CopyOwn
import Derived.Laws.NewBlocks
import Derived.Laws.OwnMore
import Derived.Laws.Pointers
import Derived.Laws.Rows
import Derived.Lib.BitFns
import Derived.Lib.Hide
import Derived.Lib.ItoaNum
import Derived.LoopIn
import Derived.LoopNIn
import Derived.Maps.AppendAt
import Derived.OrdersIn
import Derived.OwnWalk
import Derived.OwnWalkIn
import Derived.RangeFuncBound
import Derived.RangeFuncBox
import Derived.RangeFuncCalls
import Derived.RangeFuncLeaves
import Derived.RangeFuncNested
import Derived.RowKit3
import Derived.Shelf.Abstract
import Derived.Shelf.RegionOpen
import Derived.StillTactics
import Derived.StillTailTactics
import Derived.TacticsInMore
import Derived.Test.YtodigegjngnknaaProg
import Derived.WalkKit
import Derived.WalkLawsBesides
import Derived.WalkMore
import Derived.WalkSpells
set_option linter.unusedVariables false
set_option linter.unusedSimpArgs false
set_option exponentiation.threshold 10000
namespace Go.Proofs.Ytodigegjngnknaa
open Go.RowKit GW NL
set_option maxHeartbeats 2000000 in
theorem radd_any (A1 A2 : Option Addr) (c1 c2 a b : Nat) (w : World) (h1 : SlW w A1 c1 (limbs a)) (h2 : SlW w A2 c2 (limbs b)) (hl1 : (limbs a).length ≤ 1000000000) (hl2 : (limbs b).length ≤ 1000000000) :
    Calls Try.prog 94 #[.slice A1 (limbs a).length c1, .slice A2 (limbs b).length c2] w (RNat (a + b) w) := by
  refine calls_b fun g => ?_
  obtain ⟨n1, hn1⟩ : ∃ n, (limbs a).length = n := ⟨_, rfl⟩
  obtain ⟨n2, hn2⟩ : ∃ n, (limbs b).length = n := ⟨_, rfl⟩
  obtain ⟨M, hM⟩ : ∃ M, max n1 n2 = M := ⟨_, rfl⟩
  have HS := Lib.hid (AddI.start (limbs a) (limbs b) M)
  have CL1 := Lib.hid (fun k (hk : k ≤ 1000000001) w h => rlimb_any A1 c1 (limbs a) k w h (by omega))
  have CL2 := Lib.hid (fun k (hk : k ≤ 1000000001) w h => rlimb_any A2 c2 (limbs b) k w h (by omega))
  rw [hn1] at CL1 hl1 ⊢
  rw [hn2] at CL2 hl2 ⊢
  have HN1 := Lib.hid hn1
  have HN2 := Lib.hid hn2
  have HM : Hid (n1 ≤ M ∧ n2 ≤ M ∧ (M = n1 ∨ M = n2) ∧ M ≤ 1000000000) := Lib.hid (by omega)
  have o1 := ok_limbs a
  have o2 := ok_limbs b
  obtain ⟨i0, hi, hzz0, hzz1, hzz2⟩ := info_parts infoU32
  clear hn1 hn2 hM
  go_enter Try.func94, Try.ntmps94
  go_wp2_with (with_reducible refine G.any_mark _ ?_; (try generalize Array.size (World.heap (G.w _)) = bk); (try dsimp only [List.set_cons_zero, List.set_cons_succ]); (try clear g); intro g)
  go_loopg [5, 6, 7] (M + 1) (fun gk s5 s6 s7 wr => ∃ (k c : Nat) (pre : List Nat), k + gk = M + 1 ∧ s6 = .int .u64 (c : Int) ∧ s7 = .int .i64 (k : Int) ∧ Hid (AddI (limbs a) (limbs b) M k c pre) ∧ ((pre = [] ∧ s5 = .slice none 0 0 ∧ ∃ g : G w [] [] [heapOf w], wr = g.w) ∨ (∃ b cap cs, s5 = .slice (some ⟨b, 0, none⟩) k cap ∧ Row 82 1 k (u32s pre) cap cs ∧ w.heap.size ≤ b ∧ ∃ g : G w [] [(b, 82, cs)] [heapOf w], wr = g.w)))
  case atStart => exact ⟨0, 0, [], by omega, rfl, rfl, HS, .inl ⟨rfl, rfl, g, rfl⟩⟩
  case round =>
    clear g HS
    obtain ⟨k, c, pre, hkg, rfl, rfl, HA, hst⟩ := hrel
    have hM := HM.out
    have hc1 := HA.out.lt
    by_cases hgo : k < n1 ∨ k < n2 ∨ 0 < c
    · have hkM : k ≤ M := by
        rcases Nat.lt_or_ge k (M + 1) with h | h
        · omega
        · exfalso
          obtain rfl : k = M + 1 := by omega
          have := HA.out.done o1 o2 (by rw [HN1.out]; omega) (by rw [HN2.out]; omega)
          omega
      have HA2 := Lib.hid (HA.out.next o1 o2 (by rw [HN1.out]; omega) (by rw [HN2.out]; omega) (by rw [HN1.out, HN2.out]; omega) hkM (by omega))
      have CLa := Lib.hid (CL1.out k (by omega))
      have CLb := Lib.hid (CL2.out k (by omega))
      have hx := o1.getD k
      have hy := o2.getD k
      have hpl := HA.out.len
      generalize (limbs a).getD k 0 = x at *
      generalize (limbs b).getD k 0 = y at *
      obtain ⟨t, ht⟩ : ∃ t, c + x + y = t := ⟨_, rfl⟩
      have ht9 : t < 18446744073709551616 := by omega
      obtain ⟨cx, hcx⟩ : ∃ cx, c + x = cx := ⟨_, rfl⟩
      have f1 : (c : Int) + (x : Int) = (cx : Int) := by omega
      have f2 : (cx : Int) + (y : Int) = (t : Int) := by omega
      have f3 : IntKind.u64.wrap (cx : Int) = (cx : Int) := by rw [IntKind.wrap_u64]; omega
      have f4 : IntKind.u64.wrap (t : Int) = (t : Int) := by rw [IntKind.wrap_u64]; omega
      obtain ⟨lo, hlo⟩ : ∃ lo, t % 4294967296 = lo := ⟨_, rfl⟩
      obtain ⟨hi', hhi⟩ : ∃ hi', t / 4294967296 = hi' := ⟨_, rfl⟩
      have f5 : IntKind.u32.wrap (t : Int) = (lo : Int) := by rw [IntKind.wrap_u32]; omega
      have f6 : (t : Int) / 4294967296 = (hi' : Int) := by omega
      rw [ht, hlo, hhi] at HA2
      have H1 : ∀ u ∈ [Value.int .u32 (lo : Int)], u.oneCell' = true := by intro u hu; rw [List.mem_singleton.1 hu]; rfl
      have hk9 : k ≤ 1000000000 := by omega
      have H2 : k + 1 ≤ maxLen := by show k + 1 ≤ 9223372036854775807; omega
      have H3 : (k + 1) * 4 ≤ 140737488355328 := by omega
      have HAP : Hid (u32s (pre ++ [lo]) = u32s pre ++ [.int .u32 (lo : Int)]) := Lib.hid (by rw [u32s_append]; rfl)
      have hgk : 0 < gk := by omega
      have hkg2 : k + 1 + (gk - 1) = M + 1 := by omega
      clear ht hcx hlo hhi hM hkM
      have hcase : (k < n1) ∨ (¬ k < n1 ∧ k < n2) ∨ (¬ k < n1 ∧ ¬ k < n2 ∧ 0 < c) := by omega
      clear hgo
      rcases hst with ⟨rfl, rfl, g, rfl⟩ | ⟨b', cap, cs, rfl, hrow, hb, g, rfl⟩
      · obtain rfl : k = 0 := by rw [← hpl]; rfl
        rcases hcase with h | ⟨h, h'⟩ | ⟨h, h', h''⟩
        all_goals
          go_wp2_with (with_reducible refine G.any_mark _ ?_; (try generalize Array.size (World.heap (G.w _)) = bk); (try dsimp only [List.set_cons_zero, List.set_cons_succ]); (try clear g); intro g)
          refine (CLa.out _ (G.sl g (by simp) h1)).mono ?_
          rintro e w1 ⟨rfl, rfl⟩
          go_wp2_with (with_reducible refine G.any_mark _ ?_; (try generalize Array.size (World.heap (G.w _)) = bk); (try dsimp only [List.set_cons_zero, List.set_cons_succ]); (try clear g); intro g)
          refine (CLb.out _ (G.sl g (by simp) h2)).mono ?_
          rintro e w1 ⟨rfl, rfl⟩
          go_wp2_with (first | (with_reducible refine G.any_mark _ ?_; (try generalize Array.size (World.heap (G.w _)) = bk); (try dsimp only [List.set_cons_zero, List.set_cons_succ]); (try clear g); intro g) | (at_builtin; refine wpList_append_lit0 rfl _ _ 65 rfl 82 i0 _ 1 4 Try.underlying65 hi hzz0 hzz1 hzz2 rfl (by decide) g rfl 1 rfl rfl H1 (by decide) (by decide) (by decide) ?_; clear g; intro b' cap cs g hb hrow))
          go_roundg (gk - 1)
          case measure => omega
          case rel => exact ⟨0 + 1, hi', [] ++ [lo], hkg2, rfl, by go_num, HA2, .inr ⟨b', cap, cs, rfl, by rw [HAP.out]; exact hrow, hb, g, rfl⟩⟩
      · rcases hcase with h | ⟨h, h'⟩ | ⟨h, h', h''⟩
        all_goals
          go_wp2_with (with_reducible refine G.any_mark _ ?_; (try generalize Array.size (World.heap (G.w _)) = bk); (try dsimp only [List.set_cons_zero, List.set_cons_succ]); (try clear g); intro g)
          refine (CLa.out _ (G.sl g (by simp) h1)).mono ?_
          rintro e w1 ⟨rfl, rfl⟩
          go_wp2_with (with_reducible refine G.any_mark _ ?_; (try generalize Array.size (World.heap (G.w _)) = bk); (try dsimp only [List.set_cons_zero, List.set_cons_succ]); (try clear g); intro g)
          refine (CLb.out _ (G.sl g (by simp) h2)).mono ?_
          rintro e w1 ⟨rfl, rfl⟩
          go_wp2_with (first | (with_reducible refine G.any_mark _ ?_; (try generalize Array.size (World.heap (G.w _)) = bk); (try dsimp only [List.set_cons_zero, List.set_cons_succ]); (try clear g); intro g) | (at_builtin; refine wpList_append_lit rfl _ _ 65 rfl 82 i0 _ 1 4 Try.underlying65 hi hzz0 hzz1 hzz2 rfl (by decide) g hrow hb rfl 1 rfl rfl H1 (by decide) H2 H3 ?_; clear hb hrow g; intro b' cap cs g hb hrow))
          go_roundg (gk - 1)
          case measure => omega
          case rel => exact ⟨k + 1, hi', pre ++ [lo], hkg2, rfl, by go_num, HA2, .inr ⟨b', cap, cs, rfl, by rw [HAP.out]; exact hrow, hb, g, rfl⟩⟩
    · obtain rfl : c = 0 := by omega
      have hp := HA.out.stop (by rw [HN1.out]; omega) (by rw [HN2.out]; omega) (by rw [HN1.out, HN2.out]; omega)
      have h3 : ¬ k < n1 := by omega
      have h4 : ¬ k < n2 := by omega
      have hpl := HA.out.len
      have hk9 : k ≤ 1000000001 := by omega
      subst hp
      have HPL := Lib.hid hpl
      clear hgo hpl
      rcases hst with ⟨hnil, rfl, g, rfl⟩ | ⟨b', cap, cs, rfl, hrow, hb, g, rfl⟩
      · have HNL := Lib.hid hnil
        clear hnil
        go_wp2_with (with_reducible refine G.any_mark _ ?_; (try generalize Array.size (World.heap (G.w _)) = bk); (try dsimp only [List.set_cons_zero, List.set_cons_succ]); (try clear g); intro g)
        go_ret
        exact ⟨none, 0, (fun _ => none), by rw [HNL.out]; rfl, by rw [HNL.out]; exact Frag.Sl.nil _ _, g.none⟩
      · go_wp2_with (with_reducible refine G.any_mark _ ?_; (try generalize Array.size (World.heap (G.w _)) = bk); (try dsimp only [List.set_cons_zero, List.set_cons_succ]); (try clear g); intro g)
        go_ret
        exact ⟨_, cap, _, ret_slice HPL.out.symm, sl_row hrow HPL.out (by omega) (ok_limbs _), g.give (List.mem_cons_self ..)⟩
end Go.Proofs.Ytodigegjngnknaa
namespace Go.Proofs.Ytodigegjngnknaa
open Go.RowKit GW NL
theorem two_limbs64 (n : Nat) (h : n < 18446744073709551616) : val [n % 4294967296, n / 4294967296] = n ∧ Ok [n % 4294967296, n / 4294967296] := by
  refine ⟨by simp [val]; omega, ?_⟩
  intro x hx
  simp at hx
  omega
theorem limbs_len0 : (limbs 0).length = 0 := by rw [limbs_zero]; rfl
/-- a natural number and a sign -/
def RFrom (n : Nat) (b : Bool) (w : World) (e : Ending) (w' : World) : Prop := ∃ A c F, e = .returned (.tuple #[.slice A (limbs n).length c, .bool b]) ∧ F.Sl A c (limbs n) ∧ New w w' F
set_option maxRecDepth 20000 in
theorem from_pos (n : Nat) (h1 : n < 9223372036854775808) (w : World) : Calls Try.prog 91 #[.int .i64 n] w (RFrom n false w) := by
  refine calls_b fun g => ?_
  obtain ⟨hv, hk⟩ := two_limbs64 n (by omega)
  have HV := Lib.hid hv
  have e1 : (((n % 4294967296 : Nat)) : Int) = (n : Int) % 4294967296 := by omega
  have e2 : (((n / 4294967296 : Nat)) : Int) = (n : Int) / 4294967296 := by omega
  have E1 := Lib.hid e1
  have E2 := Lib.hid e2
  clear hv e1 e2
  go_enter Try.func91, Try.ntmps91
  go_wp2_with (with_reducible refine G.any_mark _ ?_; (try generalize Array.size (World.heap (G.w _)) = bk); (try dsimp only [List.set_cons_zero, List.set_cons_succ]); (try clear g); intro g)
  obtain ⟨L, hL⟩ : ∃ L, [n % 4294967296, n / 4294967296] = L := ⟨_, rfl⟩
  have hL2 : L.length = 2 := by rw [← hL]; rfl
  have HVL := HV.out
  obtain ⟨g2, hg2⟩ := g.as (M' := [(bk, 82, u32s L)]) (by rw [← hL]; simp only [u32s, List.map_cons, List.map_nil, E1.out, E2.out])
  rw [hg2]
  clear hg2 g
  revert g2
  intro g
  rw [hL] at hk HVL
  have HVV := Lib.hid HVL
  have HL2 := Lib.hid hL2
  clear HVL hL2 hL HV E1 E2
  obtain ⟨tb, rfl⟩ : ∃ tb, tb = bk := ⟨_, rfl⟩
  go_loopg [5] 2 (fun gk s5 wr => gk ≤ 2 ∧ s5 = .slice (some ⟨tb, 0, none⟩) gk 2 ∧ Hid (val (L.take gk) = n) ∧ ∃ g : G w [] [(tb, 82, u32s L)] [heapOf w], wr = g.w)
  case atStart => exact ⟨Nat.le_refl _, rfl, Lib.hid (by rw [List.take_of_length_le (by rw [HL2.out]; exact Nat.le_refl _)]; exact HVV.out), g, rfl⟩
  case round =>
    clear g
    obtain ⟨hj, rfl, HVJ, g, rfl⟩ := hrel
    have hfin : (blkF tb (.cells (u32s L).toArray 82 (0, 0))).Sl (some ⟨tb, 0, none⟩) 2 (limbs n) := by
      have := sl_trim (sl_blk (b := tb) (T := 82) (fr := (0, 0)) (c := 2) (by rw [HL2.out]; exact Nat.le_refl _) (by decide) hk)
      rwa [HVV.out] at this
    have HF := Lib.hid hfin
    clear hfin
    rcases Nat.eq_zero_or_pos gk with h0 | hj0
    · subst h0
      have hn0 : (limbs n).length = 0 := by
        rw [← HVJ.out, List.take_zero]; exact limbs_len0
      have HLE := Lib.hid hn0
      clear hn0
      go_wp2_with (with_reducible refine G.any_mark _ ?_; (try generalize Array.size (World.heap (G.w _)) = bk); (try dsimp only [List.set_cons_zero, List.set_cons_succ]); (try clear g); intro g)
      go_ret2
      exact ⟨some ⟨tb, 0, none⟩, 2, _, by rw [HLE.out]; rfl, HF.out, g.give (List.mem_cons_self ..)⟩
    · have e1 : (u32s L)[gk - 1]? = some (.int .u32 ((L.getD (gk - 1) 0 : Nat) : Int)) := u32s_getD (by rw [HL2.out]; omega)
      have hji : ((gk - 1 : Nat) : Int) = (gk : Int) - 1 := by omega
      have hj1 : (0 : Int) ≤ (gk : Int) - 1 := by omega
      have hj2 : (gk : Int) - 1 < (gk : Int) := by omega
      have hj3 : (0 : Int) < (gk : Int) := by omega
      generalize u32s L = U at *
      by_cases hx : L.getD (gk - 1) 0 = 0
      · have hv' : val (L.take (gk - 1)) = n := by
          rw [← HVJ.out]
          have := val_take_getD L (gk - 1)
          rw [show gk - 1 + 1 = gk by omega, hx] at this
          omega
        have HV' := Lib.hid hv'
        have hx1 : (((L.getD (gk - 1) 0 : Nat) : Int) == 0) = true := by simp only [hx]; rfl
        clear hv' hx
        generalize ((L.getD (gk - 1) 0 : Nat) : Int) = v at *
        go_wp2_with (with_reducible refine G.any_mark _ ?_; (try generalize Array.size (World.heap (G.w _)) = bk); (try dsimp only [List.set_cons_zero, List.set_cons_succ]); (try clear g); intro g)
        go_roundg (gk - 1)
        case measure => omega
        case rel => exact ⟨by omega, rfl, HV', g, rfl⟩
      · have hlen : (limbs n).length = gk := by
          have hl : (L.take gk).length = gk := by rw [List.length_take, HL2.out]; omega
          have t : Trim (L.take gk) := by
            intro j hj
            rw [hl] at hj
            rw [getD_take (by omega), show j = gk - 1 by omega]
            exact hx
          rw [← HVJ.out, limbs_val (hk.take gk) t, hl]
        have HLE := Lib.hid hlen
        have hx1 : (((L.getD (gk - 1) 0 : Nat) : Int) == 0) = false := by simp only [beq_eq_false_iff_ne, ne_eq]; omega
        clear hlen hx
        generalize ((L.getD (gk - 1) 0 : Nat) : Int) = v at *
        go_wp2_with (with_reducible refine G.any_mark _ ?_; (try generalize Array.size (World.heap (G.w _)) = bk); (try dsimp only [List.set_cons_zero, List.set_cons_succ]); (try clear g); intro g)
        go_ret2
        exact ⟨some ⟨tb, 0, none⟩, 2, _, by rw [HLE.out]; rfl, HF.out, g.give (List.mem_cons_self ..)⟩
set_option maxRecDepth 20000 in
theorem from_neg (n : Nat) (h0 : 0 < n) (h1 : n ≤ 9223372036854775808) (w : World) : Calls Try.prog 91 #[.int .i64 (-(n : Int))] w (RFrom n true w) := by
  refine calls_b fun g => ?_
  obtain ⟨a, ha⟩ : ∃ a : Int, -(n : Int) = a := ⟨_, rfl⟩
  rw [ha]
  have hneg : a < 0 := by omega
  obtain ⟨b, hb⟩ : ∃ b : Int, 18446744073709551616 - (n : Int) = b := ⟨_, rfl⟩
  have w1 : IntKind.u64.wrap a = b := by show a % 18446744073709551616 = b; omega
  have w2 : IntKind.u64.wrap (-b) = (n : Int) := by show (-b) % 18446744073709551616 = (n : Int); omega
  obtain ⟨hv, hk⟩ := two_limbs64 n (by omega)
  have HV := Lib.hid hv
  have e1 : (((n % 4294967296 : Nat)) : Int) = (n : Int) % 4294967296 := by omega
  have e2 : (((n / 4294967296 : Nat)) : Int) = (n : Int) / 4294967296 := by omega
  have E1 := Lib.hid e1
  have E2 := Lib.hid e2
  have hn64 : (n : Int) / 4294967296 < 4294967296 := by omega
  clear hv e1 e2 hb
  have h63 : -9223372036854775808 ≤ a := by omega
  go_enter Try.func91, Try.ntmps91
  go_wp2_with (with_reducible refine G.any_mark _ ?_; (try generalize Array.size (World.heap (G.w _)) = bk); (try dsimp only [List.set_cons_zero, List.set_cons_succ]); (try clear g); intro g)
  obtain ⟨L, hL⟩ : ∃ L, [n % 4294967296, n / 4294967296] = L := ⟨_, rfl⟩
  have hL2 : L.length = 2 := by rw [← hL]; rfl
  have HVL := HV.out
  obtain ⟨g2, hg2⟩ := g.as (M' := [(bk, 82, u32s L)]) (by rw [← hL]; simp only [u32s, List.map_cons, List.map_nil, E1.out, E2.out])
  rw [hg2]
  clear hg2 g
  revert g2
  intro g
  rw [hL] at hk HVL
  have HVV := Lib.hid HVL
  have HL2 := Lib.hid hL2
  clear HVL hL2 hL HV E1 E2
  obtain ⟨tb, rfl⟩ : ∃ tb, tb = bk := ⟨_, rfl⟩
  go_loopg [5] 2 (fun gk s5 wr => gk ≤ 2 ∧ s5 = .slice (some ⟨tb, 0, none⟩) gk 2 ∧ Hid (val (L.take gk) = n) ∧ ∃ g : G w [] [(tb, 82, u32s L)] [heapOf w], wr = g.w)
  case atStart => exact ⟨Nat.le_refl _, rfl, Lib.hid (by rw [List.take_of_length_le (by rw [HL2.out]; exact Nat.le_refl _)]; exact HVV.out), g, rfl⟩
  case round =>
    clear g
    obtain ⟨hj, rfl, HVJ, g, rfl⟩ := hrel
    have hfin : (blkF tb (.cells (u32s L).toArray 82 (0, 0))).Sl (some ⟨tb, 0, none⟩) 2 (limbs n) := by
      have := sl_trim (sl_blk (b := tb) (T := 82) (fr := (0, 0)) (c := 2) (by rw [HL2.out]; exact Nat.le_refl _) (by decide) hk)
      rwa [HVV.out] at this
    have HF := Lib.hid hfin
    clear hfin
    rcases Nat.eq_zero_or_pos gk with h0 | hj0
    · subst h0
      have hn0 : (limbs n).length = 0 := by
        rw [← HVJ.out, List.take_zero]; exact limbs_len0
      have HLE := Lib.hid hn0
      clear hn0
      go_wp2_with (with_reducible refine G.any_mark _ ?_; (try generalize Array.size (World.heap (G.w _)) = bk); (try dsimp only [List.set_cons_zero, List.set_cons_succ]); (try clear g); intro g)
      go_ret2
      exact ⟨some ⟨tb, 0, none⟩, 2, _, by rw [HLE.out]; rfl, HF.out, g.give (List.mem_cons_self ..)⟩
    · have e1 : (u32s L)[gk - 1]? = some (.int .u32 ((L.getD (gk - 1) 0 : Nat) : Int)) := u32s_getD (by rw [HL2.out]; omega)
      have hji : ((gk - 1 : Nat) : Int) = (gk : Int) - 1 := by omega
      have hj1 : (0 : Int) ≤ (gk : Int) - 1 := by omega
      have hj2 : (gk : Int) - 1 < (gk : Int) := by omega
      have hj3 : (0 : Int) < (gk : Int) := by omega
      generalize u32s L = U at *
      by_cases hx : L.getD (gk - 1) 0 = 0
      · have hv' : val (L.take (gk - 1)) = n := by
          rw [← HVJ.out]
          have := val_take_getD L (gk - 1)
          rw [show gk - 1 + 1 = gk by omega, hx] at this
          omega
        have HV' := Lib.hid hv'
        have hx1 : (((L.getD (gk - 1) 0 : Nat) : Int) == 0) = true := by simp only [hx]; rfl
        clear hv' hx
        generalize ((L.getD (gk - 1) 0 : Nat) : Int) = v at *
        go_wp2_with (with_reducible refine G.any_mark _ ?_; (try generalize Array.size (World.heap (G.w _)) = bk); (try dsimp only [List.set_cons_zero, List.set_cons_succ]); (try clear g); intro g)
        go_roundg (gk - 1)
        case measure => omega
        case rel => exact ⟨by omega, rfl, HV', g, rfl⟩
      · have hlen : (limbs n).length = gk := by
          have hl : (L.take gk).length = gk := by rw [List.length_take, HL2.out]; omega
          have t : Trim (L.take gk) := by
            intro j hj
            rw [hl] at hj
            rw [getD_take (by omega), show j = gk - 1 by omega]
            exact hx
          rw [← HVJ.out, limbs_val (hk.take gk) t, hl]
        have HLE := Lib.hid hlen
        have hx1 : (((L.getD (gk - 1) 0 : Nat) : Int) == 0) = false := by simp only [beq_eq_false_iff_ne, ne_eq]; omega
        clear hlen hx
        generalize ((L.getD (gk - 1) 0 : Nat) : Int) = v at *
        go_wp2_with (with_reducible refine G.any_mark _ ?_; (try generalize Array.size (World.heap (G.w _)) = bk); (try dsimp only [List.set_cons_zero, List.set_cons_succ]); (try clear g); intro g)
        go_ret2
        exact ⟨some ⟨tb, 0, none⟩, 2, _, by rw [HLE.out]; rfl, HF.out, g.give (List.mem_cons_self ..)⟩
end Go.Proofs.Ytodigegjngnknaa
namespace Go.Proofs.Ytodigegjngnknaa
open Go.RowKit GW NL
theorem from_any (a : Int) (h1 : -9223372036854775808 ≤ a) (h2 : a < 9223372036854775808) (w : World) : Calls Try.prog 91 #[.int .i64 a] w (RFrom a.natAbs (decide (a < 0)) w) := by
  by_cases h : a < 0
  · have := from_neg a.natAbs (by omega) (by omega) w
    rw [show -((a.natAbs : Nat) : Int) = a by omega] at this
    rwa [decide_eq_true h]
  · have := from_pos a.natAbs (by omega) w
    rw [show ((a.natAbs : Nat) : Int) = a by omega] at this
    rwa [decide_eq_false h]
end Go.Proofs.Ytodigegjngnknaa
namespace Go.Proofs.Ytodigegjngnknaa
open Go.RowKit GW NL
set_option maxRecDepth 20000 in
set_option maxHeartbeats 4000000 in
theorem rmul_any (A1 A2 : Option Addr) (c1 c2 : Nat) (l1 l2 : List Nat) (w : World) (h1 : SlW w A1 c1 l1) (h2 : SlW w A2 c2 l2) (hl1 : l1.length ≤ 1000000000) (hl2 : l2.length ≤ 1000000000) :
    Calls Try.prog 112 #[.slice A1 l1.length c1, .slice A2 l2.length c2] w (RNat (val l1 * val l2) w) := by
  refine calls_b fun g => ?_
  obtain ⟨n1, hn1⟩ : ∃ n : Nat, l1.length = n := ⟨_, rfl⟩
  obtain ⟨n2, hn2⟩ : ∃ n : Nat, l2.length = n := ⟨_, rfl⟩
  obtain ⟨n, hn⟩ : ∃ n : Nat, n1 + n2 = n := ⟨_, rfl⟩
  have hmk : ∀ w, (Instr.makeSlice 65 (.int .i64 ((n1 : Int) + (n2 : Int))) (.int .i64 ((n1 : Int) + (n2 : Int)))).run Try.prog w = .ok (.slice (some ⟨w.heap.size, 0, none⟩) n n) (w.alloc (.cells (u32s (List.replicate n 0)).toArray 82)) := by
    intro w
    have := make_nat n (by omega) w
    rw [← hn] at this ⊢
    exact this
  rw [hn1, hn2]
  have HN1 := Lib.hid hn1
  have HN2 := Lib.hid hn2
  have HN := Lib.hid hn
  have ha1 : l1.length ≤ n1 := by omega
  have ha2 : n1 ≤ l1.length := by omega
  have ha3 : l2.length ≤ n2 := by omega
  have ha4 : n2 ≤ l2.length := by omega
  have ha5 : n ≤ n1 + n2 := by omega
  have ha6 : n1 + n2 ≤ n := by omega
  clear hn1 hn2 hn
  go_enter Try.func112, Try.ntmps112
  go_wp2_with (with_reducible refine G.any_mark _ ?_; (try generalize Array.size (World.heap (G.w _)) = bk); (try dsimp only [List.set_cons_zero, List.set_cons_succ]); (try clear g); intro g)
  obtain ⟨ob, rfl⟩ : ∃ ob : Nat, ob = bk := ⟨_, rfl⟩
  go_loopg [6] n1 (fun gk i wr => ∃ (k : Nat) (out : List Nat), k + gk = n1 ∧ i = .int .i64 k ∧ n ≤ out.length ∧ out.length ≤ n ∧ Ok out ∧ Hid (∀ j, k + n2 ≤ j → out.getD j 0 = 0) ∧ Hid (val out = val (l1.take k) * val l2) ∧ ∃ g : G w [] [(ob, 82, u32s out)] [heapOf w], wr = g.w)
  case atStart => exact ⟨0, List.replicate n 0, by omega, rfl, by simp, by simp, Ok.zeros _, fun j _ => by simp [List.getElem?_replicate]; split <;> rfl, Lib.hid (by rw [val_zeros]; simp [val]), g, rfl⟩
  case round =>
    clear g hmk
    obtain ⟨ko, rfl⟩ : ∃ ko : Nat, ko = gk := ⟨_, rfl⟩
    obtain ⟨k, out, hkg, rfl, hp1, hp2, hok, HZ, HV, g, rfl⟩ := hrel
    by_cases hk2 : k < n1
    · obtain ⟨b, o, rfl, hcell⟩ := lim_cells h1.lim (by omega)
      have e0 := Lib.hid (hcell k (by omega))
      clear hcell
      have hx := h1.ok.getD k
      obtain ⟨x, hxe⟩ : ∃ x, l1.getD k 0 = x := ⟨_, rfl⟩
      rw [hxe] at e0 hx
      have HX := Lib.hid hxe
      clear hxe
      have hko : 0 < ko := by omega
      go_wp2_with (with_reducible refine G.any_mark _ ?_; (try generalize Array.size (World.heap (G.w _)) = bk); (try dsimp only [List.set_cons_zero, List.set_cons_succ]); (try clear g); intro g)
      go_loopg [7, 8] n2 (fun gk s7 s8 wr => ∃ (j c : Nat) (out : List Nat), j + gk = n2 ∧ s7 = .int .u64 c ∧ s8 = .int .i64 j ∧ n ≤ out.length ∧ out.length ≤ n ∧ Ok out ∧ c < 4294967296 ∧ Hid (∀ i, k + n2 ≤ i → out.getD i 0 = 0) ∧ Hid (val out + 4294967296 ^ (k + j) * c = val (l1.take k) * val l2 + 4294967296 ^ k * (x * val (l2.take j))) ∧ ∃ g : G w [] [(ob, 82, u32s out)] [heapOf w], wr = g.w)
      case atStart => exact ⟨0, 0, out, by omega, rfl, rfl, hp1, hp2, hok, by omega, HZ, Lib.hid (by rw [List.take_zero]; simp [val]; exact HV.out), g, rfl⟩
      case round =>
        clear g
        clear HV HZ hok hp1 hp2
        obtain ⟨j, c, out, hjg, rfl, rfl, hp1, hp2, hok, hc, HZ, HV, g, rfl⟩ := hrel
        by_cases hj2 : j < n2
        · obtain ⟨b2, o2, rfl, hcell⟩ := lim_cells h2.lim (by omega)
          have e1 := Lib.hid (hcell j (by omega))
          clear hcell
          have hy := h2.ok.getD j
          obtain ⟨kj, hkj'⟩ : ∃ kj, k + j = kj := ⟨_, rfl⟩
          have hkj : kj < out.length := by omega
          have e2 := u32s_getD hkj
          have hzz := hok.getD kj
          have st := Lib.hid (mul_step (l2 := l2) (by rw [hkj']; exact hkj) HV.out)
          rw [hkj'] at st
          have hs := Lib.hid (u32s_set out kj ((x * l2.getD j 0 + out.getD kj 0 + c) % 4294967296))
          have hc2 := mul_carry hx hy hzz hc
          have hr : (x * l2.getD j 0 + out.getD kj 0 + c) % 4294967296 < 4294967296 := by omega
          have HZ2 : Hid (∀ i, k + n2 ≤ i → (out.set kj ((x * l2.getD j 0 + out.getD kj 0 + c) % 4294967296)).getD i 0 = 0) := Lib.hid (fun i hi => by rw [NL.getD_set_ne (by omega)]; exact HZ.out i hi)
          have hok2 := hok.set kj hr
          have hlen : (out.set kj ((x * l2.getD j 0 + out.getD kj 0 + c) % 4294967296)).length = out.length := List.length_set ..
          have hbig := mul_bound x (l2.getD j 0) (out.getD kj 0) c hx hy hzz hc
          generalize out.getD kj 0 = z at *
          generalize l2.getD j 0 = y at *
          obtain ⟨xy, hxy⟩ : ∃ xy, x * y = xy := ⟨_, rfl⟩
          have f0 : (x : Int) * (y : Int) = (xy : Int) := by rw [← hxy]; exact (Int.natCast_mul x y).symm
          rw [hxy] at st hs hc2 hr HZ2 hok2 hlen hbig
          obtain ⟨t, ht⟩ : ∃ t, xy + z + c = t := ⟨_, rfl⟩
          rw [ht] at st hs hc2 hr HZ2 hok2 hlen hbig
          obtain ⟨cz, hcz⟩ : ∃ cz, c + z = cz := ⟨_, rfl⟩
          have f1 : (c : Int) + (z : Int) = (cz : Int) := by omega
          have f2 : (cz : Int) + (xy : Int) = (t : Int) := by omega
          have f3 : IntKind.u64.wrap (cz : Int) = (cz : Int) := by rw [IntKind.wrap_u64]; omega
          have f4 : IntKind.u64.wrap (t : Int) = (t : Int) := by rw [IntKind.wrap_u64]; omega
          have f5 : IntKind.u64.wrap (xy : Int) = (xy : Int) := by rw [IntKind.wrap_u64]; omega
          have f6 : IntKind.u64.wrap (x : Int) = (x : Int) := by rw [IntKind.wrap_u64]; omega
          have f7 : IntKind.u64.wrap (y : Int) = (y : Int) := by rw [IntKind.wrap_u64]; omega
          have f8 : IntKind.u64.wrap (z : Int) = (z : Int) := by rw [IntKind.wrap_u64]; omega
          obtain ⟨r, hrr⟩ : ∃ r, t % 4294967296 = r := ⟨_, rfl⟩
          obtain ⟨q, hqq⟩ : ∃ q, t / 4294967296 = q := ⟨_, rfl⟩
          have f9 : IntKind.u32.wrap (t : Int) = (r : Int) := by rw [IntKind.wrap_u32]; omega
          have f10 : (t : Int) / 4294967296 = (q : Int) := by omega
          rw [hrr] at st hs hr HZ2 hok2 hlen
          rw [hqq] at st hc2
          have hl1 := Nat.le_of_eq hlen
          have hl2 := Nat.le_of_eq hlen.symm
          have g1 : (k : Int) + (j : Int) = (kj : Int) := by omega
          have g2 : IntKind.i64.wrap (kj : Int) = (kj : Int) := by rw [IntKind.wrap_i64]; omega
          have g3 : (kj : Int) < (n : Int) := by omega
          have g4 : kj < n := by omega
          have HKJ := Lib.hid hkj'
          clear hlen hxy ht hcz hrr hqq hbig hkj' HZ HV
          have ee0 := e0.out _ _ _ _ g (by simp)
          have ee1 := e1.out _ _ _ _ g (by simp)
          go_wp2_with fail
          go_region_held3 (fun w' => w'.cell? ⟨ob, kj, none⟩ = some (.int .u32 (z : Int)) ∧ w'.cell? ⟨b, o + k, none⟩ = some (.int .u32 (x : Int)) ∧ w'.cell? ⟨b2, o2 + j, none⟩ = some (.int .u32 (y : Int))) ((simp only [G.drew_eq, G.drewN_eq, G.cell0]; exact ⟨e2, e0.out _ _ _ _ _ (by simp), e1.out _ _ _ _ _ (by simp)⟩)) (fail)
          clear ee0 ee1
          ((try simp only [G.drew_eq, G.drewN_eq]); (refine G.any_mark _ ?_; (try generalize Array.size (World.heap (G.w _)) = bk); (try dsimp only [List.set_cons_zero, List.set_cons_succ]); (try clear g); intro g))
          go_wp2_with (with_reducible refine G.any_mark _ ?_; (try generalize Array.size (World.heap (G.w _)) = bk); (try dsimp only [List.set_cons_zero, List.set_cons_succ]); (try clear g); intro g)
          obtain ⟨g2', hg2⟩ := g.as (by rw [hs.out])
          go_roundg (gk - 1)
          case measure => omega
          case rel => exact ⟨j + 1, q, out.set kj r, by omega, rfl, by go_num, by omega, by omega, hok2, hc2, HZ2, Lib.hid (by have := st.out; have e := HKJ.out; rw [← e] at this ⊢; exact this), g2', hg2⟩
        · obtain rfl : j = n2 := by omega
          have hn2 : l2.length = j := by omega
          obtain ⟨kj, hkj'⟩ : ∃ kj, k + j = kj := ⟨_, rfl⟩
          have hkl : k + l2.length < out.length := by omega
          have hkl' : kj < out.length := by omega
          have hz0 := HZ.out (k + j) (Nat.le_refl _)
          have e2 := u32s_getD hkl'
          have rd := Lib.hid (mul_round (l1 := l1) (c := c) hkl (by rw [hn2]; exact hz0) (by rw [HX.out, hn2]; exact HV.out))
          have hs := Lib.hid (u32s_set out kj c)
          have hok2 := hok.set kj hc
          have HZ2 : Hid (∀ i, k + 1 + j ≤ i → (out.set kj c).getD i 0 = 0) := Lib.hid (fun i hi => by rw [NL.getD_set_ne (by omega)]; exact HZ.out i (by omega))
          rw [hn2, hkj'] at rd
          have hlen : (out.set kj c).length = out.length := List.length_set ..
          have hl1 := Nat.le_of_eq hlen
          have hl2 := Nat.le_of_eq hlen.symm
          have f9 : IntKind.u32.wrap (c : Int) = (c : Int) := by rw [IntKind.wrap_u32]; omega
          have g1 : (k : Int) + (j : Int) = (kj : Int) := by omega
          have g2 : IntKind.i64.wrap (kj : Int) = (kj : Int) := by rw [IntKind.wrap_i64]; omega
          have g3 : (kj : Int) < (n : Int) := by omega
          have g4 : kj < n := by omega
          clear hlen hn2 hz0 HZ HV hkj'
          generalize out.getD kj 0 = z at *
          go_wp2_with (with_reducible refine G.any_mark _ ?_; (try generalize Array.size (World.heap (G.w _)) = bk); (try dsimp only [List.set_cons_zero, List.set_cons_succ]); (try clear g); intro g)
          obtain ⟨g2', hg2⟩ := g.as (by rw [hs.out])
          go_roundg (ko - 1)
          case measure => omega
          case rel => exact ⟨k + 1, out.set kj c, by omega, by go_num, by omega, by omega, hok2, HZ2, rd, g2', hg2⟩
    · obtain rfl : k = n1 := by omega
      have hn1 : l1.length ≤ k := by omega
      have e1 := HV.out
      rw [val_take_all hn1] at e1
      have E1 := Lib.hid e1
      obtain rfl : n = out.length := by omega
      clear e1 hn1
      have hsl : SlW g.w (some ⟨ob, 0, none⟩) out.length out := (sl_blk (Nat.le_refl _) (by omega) hok).at (blkF_sub g.blk0)
      clear HN
      go_wp2_with (with_reducible refine G.any_mark _ ?_; (try generalize Array.size (World.heap (G.w _)) = bk); (try dsimp only [List.set_cons_zero, List.set_cons_succ]); (try clear g); intro g)
      refine (rtrim_any _ _ out _ hsl).mono ?_
      rintro e w1 ⟨rfl, hb⟩
      obtain ⟨g1, rfl⟩ := G.call_ex _ hb
      clear hb hsl g
      revert g1
      intro g
      go_wp2_with (with_reducible refine G.any_mark _ ?_; (try generalize Array.size (World.heap (G.w _)) = bk); (try dsimp only [List.set_cons_zero, List.set_cons_succ]); (try clear g); intro g)
      go_ret
      exact rnat_end g (List.mem_cons_self ..) hok (Nat.le_refl _) (by omega) E1.out
end Go.Proofs.Ytodigegjngnknaa
namespace Go.Proofs.Ytodigegjngnknaa
open Go.RowKit GW NL
theorem sl_drop {f : Frag} {b o c : Nat} {l : List Nat} (h : f.Sl (some ⟨b, o, none⟩) c l) (q : Nat) (hq : q ≤ l.length) : f.Sl (some ⟨b, o + q, none⟩) (c - q) (l.drop q) := by
  have h1 := h.cap
  have h2 := h.max
  have h3 := h.len
  refine ⟨by rw [List.length_drop]; omega, by omega, by rw [List.length_drop]; omega, ?_, h.ok.drop q⟩
  intro hl
  rw [List.length_drop] at hl
  obtain ⟨b', o', e, cs, T, fr, hb, hc⟩ := h.lim (by omega)
  cases e
  refine ⟨b, o + q, rfl, cs, T, fr, hb, fun j hj => ?_⟩
  rw [List.length_drop] at hj
  rw [getD_drop, show o + q + j = o + (q + j) by omega]
  exact hc (q + j) (by omega)
/-- one limb shifted up, with what came from below -/
theorem up_next {pre l : List Nat} {k c r X : Nat} (hp : pre.length = k) (hr : r < 32) (hc : c < 2 ^ r) (hX : l.getD k 0 = X) (hx : X < 4294967296) (h : val pre + 4294967296 ^ k * c = val (l.take k) * 2 ^ r) :
    (X * 2 ^ r + c) / 4294967296 < 2 ^ r ∧ X * 2 ^ r + c < 18446744073709551616 ∧ val (pre ++ [(X * 2 ^ r + c) % 4294967296]) + 4294967296 ^ (k + 1) * ((X * 2 ^ r + c) / 4294967296) = val (l.take (k + 1)) * 2 ^ r := by
  have h1 : X * 2 ^ r + 2 ^ r ≤ 4294967296 * 2 ^ r := by
    have := Nat.mul_le_mul_right (2 ^ r) (Nat.succ_le_of_lt hx)
    rwa [Nat.succ_mul] at this
  have h2 : (2 : Nat) ^ r ≤ 2 ^ 31 := Nat.pow_le_pow_right (by decide) (by omega)
  refine ⟨Nat.div_lt_of_lt_mul (by omega), by omega, ?_⟩
  rw [val_snoc, hp, val_take_getD, hX]
  have p := pow_split k (X * 2 ^ r + c)
  rw [Nat.mul_add _ (X * 2 ^ r) c] at p
  rw [Nat.add_mul, Nat.mul_assoc]
  omega
set_option maxRecDepth 20000 in
set_option maxHeartbeats 2000000 in
theorem rshift_up (A : Option Addr) (c : Nat) (l : List Nat) (s : Nat) (w : World) (h : SlW w A c l) (hl : l.length ≤ 1000000000) (hs : s ≤ 1000000000) :
    Calls Try.prog 87 #[.slice A l.length c, .int .i64 (s : Int)] w (RNat (val l * 2 ^ s) w) := by
  refine calls_b fun g => ?_
  obtain ⟨n1, hn1⟩ : ∃ n : Nat, l.length = n := ⟨_, rfl⟩
  obtain ⟨q, hq⟩ : ∃ q : Nat, s / 32 = q := ⟨_, rfl⟩
  obtain ⟨r, hr⟩ : ∃ r : Nat, s % 32 = r := ⟨_, rfl⟩
  have hr32 : r < 32 := by omega
  have hq9 : q ≤ 1000000000 := by omega
  have hqi : Int.tdiv (s : Int) 32 = (q : Int) := by rw [Int.tdiv_eq_ediv_of_nonneg (by omega)]; omega
  have hri : Int.tmod (s : Int) 32 = (r : Int) := by rw [Int.tmod_eq_emod_of_nonneg (by omega)]; omega
  have hpow : 4294967296 ^ q * 2 ^ r = 2 ^ s := by rw [pow32, ← Nat.pow_add]; congr 1; omega
  have HP := Lib.hid hpow
  have hs0 : ¬ ((s : Int) < 0) := by omega
  rw [hn1]
  have HN1 := Lib.hid hn1
  have hn9 : n1 ≤ 1000000000 := by omega
  have hmk := fun w => make_nat q (by omega) w
  have HZ : Hid (Row 82 1 q (u32s (List.replicate q 0)) q (u32s (List.replicate q 0))) := Lib.hid ⟨Nat.le_refl _, by show q ≤ 9223372036854775807; omega, by rw [u32s_len, List.length_replicate, Nat.mul_one], by rw [Nat.mul_one, List.take_of_length_le (by rw [u32s_len, List.length_replicate]; exact Nat.le_refl _)], by rw [u32s_len, List.length_replicate, Nat.mul_one]⟩
  obtain ⟨i0, hi, hzz0, hzz1, hzz2⟩ := info_parts infoU32
  have hc0 : Hid ((0 : Nat) < 2 ^ r) := Lib.hid (Nat.two_pow_pos r)
  clear hn1 hq hr hpow hl
  generalize (s : Int) = si at *
  go_enter Try.func87, Try.ntmps87
  go_wp2_with (with_reducible refine G.any_mark _ ?_; (try generalize Array.size (World.heap (G.w _)) = bk); (try dsimp only [List.set_cons_zero, List.set_cons_succ]); (try clear g); intro g)
  obtain ⟨zb, rfl⟩ : ∃ zb : Nat, zb = bk := ⟨_, rfl⟩
  have hzb : w.heap.size ≤ zb := g.fresh (List.mem_cons_self ..)
  go_loopg [7, 8, 9] n1 (fun gk s7 s8 s9 wr => ∃ (k c : Nat) (pre : List Nat) (b cap : Nat) (cs : List Value), k + gk = n1 ∧ s8 = .int .u64 (c : Int) ∧ s9 = .int .i64 (k : Int) ∧ c < 4294967296 ∧ Hid (c < 2 ^ r ∧ pre.length = k ∧ Ok pre ∧ val pre + 4294967296 ^ k * c = val (l.take k) * 2 ^ r) ∧ s7 = .slice (some ⟨b, 0, none⟩) (q + k) cap ∧ Row 82 1 (q + k) (u32s (List.replicate q 0 ++ pre)) cap cs ∧ w.heap.size ≤ b ∧ ∃ g : G w [] [(b, 82, cs)] [heapOf w], wr = g.w)
  case atStart => exact ⟨0, 0, [], zb, q, _, by omega, rfl, rfl, by omega, ⟨hc0.out, rfl, Ok.nil, by simp [val]⟩, rfl, by rw [List.append_nil]; exact HZ.out, hzb, g, rfl⟩
  case round =>
    clear g hmk HZ hzb
    obtain ⟨k, c, pre, b', cap, cs, hkg, rfl, rfl, hc9, HI, rfl, hrow, hb, g, rfl⟩ := hrel
    have hr0 : ¬ ((r : Int) < 0) := by omega
    have hr1 : (0 : Int) ≤ (r : Int) := by omega
    by_cases hk : k < n1
    · obtain ⟨b, o, rfl, hcell⟩ := lim_cells h.lim (by rw [HN1.out]; omega)
      have e0 := hcell k (by rw [HN1.out]; omega) _ _ _ _ g (by simp)
      clear hcell
      have hX := h.ok.getD k
      have hun := up_next (l := l) HI.out.2.1 hr32 HI.out.1 rfl hX HI.out.2.2.2
      have hdis : bits .or .u64 (c : Int) ((l.getD k 0 * 2 ^ r : Nat) : Int) = ((l.getD k 0 * 2 ^ r + c : Nat) : Int) := K3.or64_add _ _ r (by omega) HI.out.1 (by omega) (Nat.mul_mod_left _ _)
      have hlt2 : l.getD k 0 * 2 ^ r < 18446744073709551616 := by omega
      have hpo := HI.out.2.2.1
      have hpl := HI.out.2.1
      generalize l.getD k 0 = X at *
      have hsh : IntKind.u64.wrap ((X : Int) * 2 ^ r) = ((X * 2 ^ r : Nat) : Int) := by
        rw [show (X : Int) * 2 ^ r = ((X * 2 ^ r : Nat) : Int) by rw [Int.natCast_mul, Int.natCast_pow]; rfl, IntKind.wrap_u64]
        omega
      have hwX : IntKind.u64.wrap (X : Int) = (X : Int) := by rw [IntKind.wrap_u64]; omega
      generalize X * 2 ^ r = y at *
      obtain ⟨t, ht⟩ : ∃ t, y + c = t := ⟨_, rfl⟩
      rw [ht] at hun hdis
      obtain ⟨lo, hlo⟩ : ∃ lo, t % 4294967296 = lo := ⟨_, rfl⟩
      obtain ⟨hi', hhi⟩ : ∃ hi', t / 4294967296 = hi' := ⟨_, rfl⟩
      have ht9 := hun.2.1
      have f5 : IntKind.u32.wrap (t : Int) = (lo : Int) := by rw [IntKind.wrap_u32]; omega
      have f6 : (t : Int) / 4294967296 = (hi' : Int) := by omega
      have hlo9 : lo < 4294967296 := by omega
      have hhi9 : hi' < 4294967296 := by omega
      rw [hlo, hhi] at hun
      have HI2 : Hid (hi' < 2 ^ r ∧ (pre ++ [lo]).length = k + 1 ∧ Ok (pre ++ [lo]) ∧ val (pre ++ [lo]) + 4294967296 ^ (k + 1) * hi' = val (l.take (k + 1)) * 2 ^ r) := Lib.hid ⟨hun.1, by rw [List.length_append, hpl]; rfl, hpo.append (Ok.cons hlo9 Ok.nil), hun.2.2⟩
      have H1 : ∀ u ∈ [Value.int .u32 (lo : Int)], u.oneCell' = true := by intro u hu; rw [List.mem_singleton.1 hu]; rfl
      have H2 : q + k + 1 ≤ maxLen := by show q + k + 1 ≤ 9223372036854775807; omega
      have H3 : (q + k + 1) * 4 ≤ 140737488355328 := by omega
      have HAP : Hid (u32s (List.replicate q 0 ++ (pre ++ [lo])) = u32s (List.replicate q 0 ++ pre) ++ [.int .u32 (lo : Int)]) := Lib.hid (by rw [← List.append_assoc, u32s_append]; rfl)
      have hki : (k : Int) < (n1 : Int) := by omega
      have hgk : 0 < gk := by omega
      have hkg2 : k + 1 + (gk - 1) = n1 := by omega
      clear hun ht hlo hhi hlt2 hX HI hpl
      go_wp2_with (first | (with_reducible refine G.any_mark _ ?_; (try generalize Array.size (World.heap (G.w _)) = bk); (try dsimp only [List.set_cons_zero, List.set_cons_succ]); (try clear g); intro g) | (at_builtin; refine wpList_append_lit rfl _ _ 65 rfl 82 i0 _ 1 4 Try.underlying65 hi hzz0 hzz1 hzz2 rfl (by decide) g hrow hb rfl 1 rfl rfl H1 (by decide) H2 H3 ?_; clear hb hrow g e0; intro b' cap cs g hb hrow))
      go_roundg (gk - 1)
      case measure => omega
      case rel => exact ⟨k + 1, hi', pre ++ [lo], b', cap, cs, hkg2, rfl, by go_num, hhi9, HI2, rfl, by rw [HAP.out]; exact hrow, hb, g, rfl⟩
    · obtain rfl : k = n1 := by omega
      have hpl := HI.out.2.1
      have heq := HI.out.2.2.2
      rw [val_take_all (by rw [HN1.out]; exact Nat.le_refl _)] at heq
      have hL : (List.replicate q 0 ++ (pre ++ [c])).length = q + k + 1 := by rw [List.length_append, List.length_append, List.length_replicate, hpl]; rfl
      have hV : val (List.replicate q 0 ++ (pre ++ [c])) = val l * 2 ^ s := by
        rw [val_append, val_zeros, val_snoc, hpl, heq, List.length_replicate, Nat.zero_add, ← HP.out, Nat.mul_left_comm]
      have hO : Ok (List.replicate q 0 ++ (pre ++ [c])) := (Ok.zeros q).append (HI.out.2.2.1.append (Ok.cons hc9 Ok.nil))
      have HAP : Hid (u32s (List.replicate q 0 ++ (pre ++ [c])) = u32s (List.replicate q 0 ++ pre) ++ [.int .u32 (c : Int)]) := Lib.hid (by rw [← List.append_assoc, u32s_append]; rfl)
      generalize List.replicate q 0 ++ (pre ++ [c]) = L at *
      have CT1 := Lib.hid (fun A cap w h => rtrim_any A cap L w h)
      rw [hL] at CT1
      have HL := Lib.hid hL
      have HV := Lib.hid hV
      have H1 : ∀ u ∈ [Value.int .u32 (c : Int)], u.oneCell' = true := by intro u hu; rw [List.mem_singleton.1 hu]; rfl
      have H2 : q + k + 1 ≤ maxLen := by show q + k + 1 ≤ 9223372036854775807; omega
      have H3 : (q + k + 1) * 4 ≤ 140737488355328 := by omega
      have f5 : IntKind.u32.wrap (c : Int) = (c : Int) := by rw [IntKind.wrap_u32]; omega
      have hki : ¬ ((k : Int) < (k : Int)) := by omega
      clear hL hV heq hpl HI
      go_wp2_with (first | (with_reducible refine G.any_mark _ ?_; (try generalize Array.size (World.heap (G.w _)) = bk); (try dsimp only [List.set_cons_zero, List.set_cons_succ]); (try clear g); intro g) | (at_builtin; refine wpList_append_lit rfl _ _ 65 rfl 82 i0 _ 1 4 Try.underlying65 hi hzz0 hzz1 hzz2 rfl (by decide) g hrow hb rfl 1 rfl rfl H1 (by decide) H2 H3 ?_; clear hb hrow g; intro b' cap cs g hb hrow))
      rw [← HAP.out] at hrow
      have hsl : SlW g.w (some ⟨b', 0, none⟩) cap L := (sl_row hrow HL.out (by omega) hO).at (blkF_sub g.blk0)
      have hsr := Lib.hid (sl_trim (sl_row (b := b') hrow HL.out (by omega) hO))
      refine (CT1.out _ _ _ hsl).mono ?_
      rintro e w1 ⟨rfl, hb⟩
      obtain ⟨g1, rfl⟩ := G.call_ex _ hb
      clear hb
      (try clear g)
      revert g1
      intro g
      clear hsl
      go_wp2_with (with_reducible refine G.any_mark _ ?_; (try generalize Array.size (World.heap (G.w _)) = bk); (try dsimp only [List.set_cons_zero, List.set_cons_succ]); (try clear g); intro g)
      go_ret
      refine ⟨_, cap, _, ret_slice (by rw [HV.out]), ?_, g.give (List.mem_cons_self ..)⟩
      rw [← HV.out]
      exact hsr.out
end Go.Proofs.Ytodigegjngnknaa
namespace Go.Proofs.Ytodigegjngnknaa
open Go.RowKit GW NL
set_option maxRecDepth 20000 in
set_option maxHeartbeats 2000000 in
theorem rshift_down (A : Option Addr) (c : Nat) (l : List Nat) (m : Nat) (N : Int) (w : World) (h : SlW w A c l) (hl : l.length ≤ 1000000000) (hN : -N = (m : Int)) (hm0 : N < 0) (hm : m ≤ 1000000000) :
    Calls Try.prog 87 #[.slice A l.length c, .int .i64 N] w (RNat (val l / 2 ^ m) w) := by
  refine calls_b fun g => ?_
  obtain ⟨n1, hn1⟩ : ∃ n : Nat, l.length = n := ⟨_, rfl⟩
  obtain ⟨q, hq⟩ : ∃ q : Nat, m / 32 = q := ⟨_, rfl⟩
  obtain ⟨r, hr⟩ : ∃ r : Nat, m % 32 = r := ⟨_, rfl⟩
  have hr32 : r < 32 := by omega
  have hqi : Int.tdiv (m : Int) 32 = (q : Int) := by rw [Int.tdiv_eq_ediv_of_nonneg (by omega)]; omega
  have hri : Int.tmod (m : Int) 32 = (r : Int) := by rw [Int.tmod_eq_emod_of_nonneg (by omega)]; omega
  have hZ := Lib.hid (down_zero (m := m) h.ok)
  have hD : Hid (val l / 2 ^ m = val (l.drop q) / 2 ^ r) := Lib.hid (by rw [div_pow_split, hq, hr, val_div l h.ok])
  have hmx := h.len
  have hmxx := h.max
  have hcp := h.cap
  have hq9 : q ≤ 1000000000 := by omega
  by_cases hqn : l.length ≤ q
  · have hz := hZ.out (by omega)
    rw [hz]
    clear hZ hD
    rw [hn1] at hqn ⊢
    have hn1' : n1 ≤ 140737488355328 := by omega
    clear hn1 hq hr
    have hm' : (m : Int) ≤ 1000000000 := by omega
    generalize (m : Int) = mi at *
    go_enter Try.func87, Try.ntmps87
    go_wp2_with (with_reducible refine G.any_mark _ ?_; (try generalize Array.size (World.heap (G.w _)) = bk); (try dsimp only [List.set_cons_zero, List.set_cons_succ]); (try clear g); intro g)
    go_ret
    exact ⟨none, 0, _, by simp only [limbs_zero]; rfl, by simp only [limbs_zero]; exact Frag.Sl.nil _ _, g.none⟩
  · obtain ⟨n, hn⟩ : ∃ n : Nat, n1 - q = n := ⟨_, rfl⟩
    have hqn' : q < n1 := by omega
    have HQ3 : decide (n1 ≤ q) = false := by rw [decide_eq_false_iff_not]; omega
    have hqni : ¬ ((n1 : Int) ≤ (q : Int)) := by omega
    have hmk : ∀ w, (Instr.makeSlice 65 (.int .i64 (n : Int)) (.int .i64 (n : Int))).run Try.prog w = .ok (.slice (some ⟨w.heap.size, 0, none⟩) n n) (w.alloc (.cells (u32s (List.replicate n 0)).toArray 82)) := fun w => make_nat n (by omega) w
    obtain ⟨b, o, rfl, _⟩ := lim_cells h.lim (by omega)
    have hld := sl_drop h q (by omega)
    have hok := h.ok
    obtain ⟨l', hl'⟩ : ∃ l', l.drop q = l' := ⟨_, rfl⟩
    rw [hl'] at hld hD
    have hll : l'.length = n := by rw [← hl', List.length_drop]; omega
    have hok' : Ok l' := by rw [← hl']; exact hok.drop q
    have HLL := Lib.hid hll
    have ha1 : l'.length ≤ n := by omega
    have ha2 : n ≤ l'.length := by omega
    have hsubn : n1 - q = n := hn
    have hn' : n ≤ 1000000000 := by omega
    rw [hn1]
    have hn1' : n1 ≤ 1000000000 := by omega
    have hcq : (q : Int) ≤ (n1 : Int) := by omega
    have hcq2 : n1 ≤ c := by omega
    have CLL := Lib.hid (fun k (hk : k ≤ 1000000001) w h => rlimb_any (some ⟨b, o + q, none⟩) (c - q) l' k w h (by omega))
    rw [hll] at CLL
    clear hn1 hq hr hZ hn hqn hl hl' hll
    have hm' : (m : Int) ≤ 1000000000 := by omega
    rw [hD.out]
    clear hm hD
    generalize (m : Int) = mi at *
    go_enter Try.func87, Try.ntmps87
    go_wp2_with (with_reducible refine G.any_mark _ ?_; (try generalize Array.size (World.heap (G.w _)) = bk); (try dsimp only [List.set_cons_zero, List.set_cons_succ]); (try clear g); intro g)
    go_loopg [6] n (fun gk i wr => ∃ (k : Nat) (pre : List Nat), k + gk = n ∧ i = .int .i64 k ∧ Hid (pre.length = k ∧ Ok pre ∧ val pre = val l' / 2 ^ r % 4294967296 ^ k) ∧ ∃ g : G w [] [(bk, 82, u32s (pre ++ List.replicate (n - k) 0))] [heapOf w], wr = g.w)
    case atStart => exact ⟨0, [], by omega, rfl, ⟨rfl, Ok.nil, by simp [val, Nat.mod_one]⟩, g, rfl⟩
    case round =>
      clear g hmk
      obtain ⟨k, pre, hkg, rfl, HI, g, rfl⟩ := hrel
      by_cases hk2 : k < n
      · have hx := hok'.getD k
        have hy := hok'.getD (k + 1)
        have hpl := u32s_zero_at HI.out.1 hk2
        have dl := down_limb hok' k r hr32
        have st := Lib.hid (low_step HI.out.1 HI.out.2.2 dl)
        have hq := Lib.hid (set_zeros' HI.out.1 hk2 ((l'.getD k 0 + 4294967296 * l'.getD (k + 1) 0) / 2 ^ r % 4294967296))
        have CL1 := Lib.hid (CLL.out k (by omega))
        have CL2 := Lib.hid (CLL.out (k + 1) (by omega))
        have hr : (l'.getD k 0 + 4294967296 * l'.getD (k + 1) 0) / 2 ^ r % 4294967296 < 4294967296 := Nat.mod_lt _ (by decide)
        clear dl
        generalize l'.getD k 0 = x at *
        generalize l'.getD (k + 1) 0 = y at *
        obtain ⟨t, htt⟩ : ∃ t, x + 4294967296 * y = t := ⟨_, rfl⟩
        have hor : bits .or .u64 (x : Int) ((y : Int) * 4294967296) = (t : Int) := by
          rw [show (y : Int) * 4294967296 = ((4294967296 * y : Nat) : Int) by omega, K3.or64_add _ _ 32 (by omega) (by omega) (by omega) (by omega)]
          omega
        have ht : t < 18446744073709551616 := by omega
        rw [htt] at st hq hr
        obtain ⟨z, hz⟩ : ∃ z, t / 2 ^ r % 4294967296 = z := ⟨_, rfl⟩
        rw [hz] at st hq hr
        have HE : Hid (bits .or .u64 (x : Int) ((y : Int) * 4294967296) / 2 ^ r % 4294967296 = (z : Int)) := Lib.hid (by
          rw [hor, ← hz, show (t : Int) / 2 ^ r = ((t / 2 ^ r : Nat) : Int) by rw [Int.natCast_ediv, Int.natCast_pow]; rfl]
          omega)
        clear hz hor ht htt
        have hpr : (pre ++ [z]).length = k + 1 := by rw [List.length_append, HI.out.1]; rfl
        have HI2 : Hid ((pre ++ [z]).length = k + 1 ∧ Ok (pre ++ [z]) ∧ val (pre ++ [z]) = val l' / 2 ^ r % 4294967296 ^ (k + 1)) := Lib.hid ⟨hpr, HI.out.2.1.append (Ok.cons hr Ok.nil), st.out⟩
        have hkn : (k : Int) < (n : Int) := by omega
        have hk1 : IntKind.i64.wrap ((k : Int) + 1) = (k : Int) + 1 := by rw [IntKind.wrap_i64]; omega
        have hc1 : ((k + 1 : Nat) : Int) = (k : Int) + 1 := by omega
        rw [hc1] at CL2
        have hr0 : ¬ ((r : Int) < 0) := by omega
        have hr1 : (0 : Int) ≤ (r : Int) := by omega
        have hgk : 0 < gk := by omega
        clear hpr hc1
        go_wp2_with (with_reducible refine G.any_mark _ ?_; (try generalize Array.size (World.heap (G.w _)) = bk); (try dsimp only [List.set_cons_zero, List.set_cons_succ]); (try clear g); intro g)
        refine (CL1.out _ (G.sl g (by simp) hld)).mono ?_
        rintro e w1 ⟨rfl, rfl⟩
        go_wp2_with (with_reducible refine G.any_mark _ ?_; (try generalize Array.size (World.heap (G.w _)) = bk); (try dsimp only [List.set_cons_zero, List.set_cons_succ]); (try clear g); intro g)
        refine (CL2.out _ (G.sl g (by simp) hld)).mono ?_
        rintro e w1 ⟨rfl, rfl⟩
        go_wp2_with (with_reducible refine G.any_mark _ ?_; (try generalize Array.size (World.heap (G.w _)) = bk); (try dsimp only [List.set_cons_zero, List.set_cons_succ]); (try clear g); intro g)
        obtain ⟨g2, hg2⟩ := g.as (by rw [HE.out, u32s_set, hq.out])
        go_roundg (gk - 1)
        case measure => omega
        case rel => exact ⟨k + 1, pre ++ [z], by omega, by go_num, HI2, g2, hg2⟩
      · obtain rfl : k = n := by omega
        have e1 := down_end hok' (n := k) (by omega) HI.out.2.2
        obtain ⟨g2, hg2⟩ := g.as (M' := [(bk, 82, u32s pre)]) (by rw [Nat.sub_self, List.replicate_zero, List.append_nil])
        rw [hg2]
        clear hg2 g
        revert g2
        intro g
        have E1 := Lib.hid e1
        clear e1
        have hp := HI.out.1
        have hok2 := HI.out.2.1
        have hkn : ¬ ((k : Int) < (k : Int)) := by omega
        clear HI HLL
        subst hp
        have hsl : SlW g.w (some ⟨bk, 0, none⟩) pre.length pre := (sl_blk (Nat.le_refl _) (by omega) hok2).at (blkF_sub g.blk0)
        go_wp2_with (with_reducible refine G.any_mark _ ?_; (try generalize Array.size (World.heap (G.w _)) = bk); (try dsimp only [List.set_cons_zero, List.set_cons_succ]); (try clear g); intro g)
        refine (rtrim_any _ _ pre _ hsl).mono ?_
        rintro e w1 ⟨rfl, hb⟩
        obtain ⟨g1, rfl⟩ := G.call_ex _ hb
        clear hb hsl g
        revert g1
        intro g
        go_wp2_with (with_reducible refine G.any_mark _ ?_; (try generalize Array.size (World.heap (G.w _)) = bk); (try dsimp only [List.set_cons_zero, List.set_cons_succ]); (try clear g); intro g)
        go_ret
        exact rnat_end g (List.mem_cons_self ..) hok2 (Nat.le_refl _) (by omega) E1.out
end Go.Proofs.Ytodigegjngnknaa
namespace Go.Proofs.Ytodigegjngnknaa
open Go.RowKit GW NL
theorem rOrder_any (A1 A2 : Option Addr) (c1 c2 a b : Nat) (w : World) (h1 : SlW w A1 c1 (limbs a)) (h2 : SlW w A2 c2 (limbs b)) (hl9 : (limbs a).length ≤ 1000000000) :
    Calls Try.prog 95 #[.slice A1 (limbs a).length c1, .slice A2 (limbs b).length c2] w fun e w' => e = .returned (.int .i64 (ord a b)) ∧ Below w.heap.size w w' := by
  refine calls_b fun g => ?_
  have C1 := Lib.hid (fun w h1 h2 => rcmp_any A1 A2 c1 c2 a b w h1 h2 hl9)
  generalize (limbs a).length = n1 at *
  generalize (limbs b).length = n2 at *
  generalize ord a b = r at *
  go_enter Try.func95, Try.ntmps95
  go_wp2_with (with_reducible refine G.any_mark _ ?_; (try generalize Array.size (World.heap (G.w _)) = bk); (try dsimp only [List.set_cons_zero, List.set_cons_succ]); (try clear g); intro g)
  refine (C1.out _ (G.sl g (by simp) h1) (G.sl g (by simp) h2)).mono ?_
  rintro e w1 ⟨rfl, hb⟩
  obtain ⟨g1, rfl⟩ := G.call_ex _ hb
  clear hb
  (try clear g)
  revert g1
  intro g
  go_wp2_with (with_reducible refine G.any_mark _ ?_; (try generalize Array.size (World.heap (G.w _)) = bk); (try dsimp only [List.set_cons_zero, List.set_cons_succ]); (try clear g); intro g)
  go_ret
  exact ⟨rfl, G.below _⟩
theorem rTimes_any (A1 A2 : Option Addr) (c1 c2 a b : Nat) (w : World) (h1 : SlW w A1 c1 (limbs a)) (h2 : SlW w A2 c2 (limbs b)) (hl1 : (limbs a).length ≤ 1000000000) (hl2 : (limbs b).length ≤ 1000000000) :
    Calls Try.prog 92 #[.slice A1 (limbs a).length c1, .slice A2 (limbs b).length c2] w (RNat (a * b) w) := by
  refine calls_b fun g => ?_
  have C1 := Lib.hid (fun w h1 h2 => rmul_any A1 A2 c1 c2 (limbs a) (limbs b) w h1 h2 hl1 hl2)
  rw [val_limbs, val_limbs] at C1
  generalize (limbs a).length = n1 at *
  generalize (limbs b).length = n2 at *
  generalize a * b = r at *
  go_enter Try.func92, Try.ntmps92
  go_wp2_with (with_reducible refine G.any_mark _ ?_; (try generalize Array.size (World.heap (G.w _)) = bk); (try dsimp only [List.set_cons_zero, List.set_cons_succ]); (try clear g); intro g)
  refine (C1.out _ (G.sl g (by simp) h1) (G.sl g (by simp) h2)).mono ?_
  rintro e w1 ⟨X, x, P, rfl, hx, hn⟩
  have ho := fun k o hk => Nat.le_trans (G.chg _).size (hn.new k o hk)
  obtain ⟨g1, rfl⟩ := G.new_ex _ hn
  clear hn
  (try clear g)
  revert g1
  intro g
  go_wp2_with (with_reducible refine G.any_mark _ ?_; (try generalize Array.size (World.heap (G.w _)) = bk); (try dsimp only [List.set_cons_zero, List.set_cons_succ]); (try clear g); intro g)
  go_ret
  exact ⟨X, x, P, rfl, hx, G.pass _ (by simp) ho⟩
end Go.Proofs.Ytodigegjngnknaa
namespace Go.Proofs.Ytodigegjngnknaa
open Go.RowKit GW NL
theorem rPlus3_any (A1 A2 : Option Addr) (c1 c2 a b : Nat) (w : World) (h1 : SlW w A1 c1 (limbs a)) (h2 : SlW w A2 c2 (limbs b)) (hl1 : (limbs a).length ≤ 100000000) (hl2 : (limbs b).length ≤ 100000000) :
    Calls Try.prog 63 #[.slice A1 (limbs a).length c1, .slice A2 (limbs b).length c2] w (RNat (a + b) w) := by
  refine calls_b fun g => ?_
  have C1 := Lib.hid (fun w h1 h2 => radd_any A1 A2 c1 c2 a b w h1 h2 (by omega) (by omega))
  generalize (limbs a).length = n1 at *
  generalize (limbs b).length = n2 at *
  generalize a + b = r at *
  go_enter Try.func63, Try.ntmps63
  go_wp2_with (with_reducible refine G.any_mark _ ?_; (try generalize Array.size (World.heap (G.w _)) = bk); (try dsimp only [List.set_cons_zero, List.set_cons_succ]); (try clear g); intro g)
  refine (C1.out _ (G.sl g (by simp) h1) (G.sl g (by simp) h2)).mono ?_
  rintro e w1 ⟨X, x, P, rfl, hx, hn⟩
  have ho := fun k o hk => Nat.le_trans (G.chg _).size (hn.new k o hk)
  obtain ⟨g1, rfl⟩ := G.new_ex _ hn
  clear hn
  (try clear g)
  revert g1
  intro g
  go_wp2_with (with_reducible refine G.any_mark _ ?_; (try generalize Array.size (World.heap (G.w _)) = bk); (try dsimp only [List.set_cons_zero, List.set_cons_succ]); (try clear g); intro g)
  go_ret
  exact ⟨X, x, P, rfl, hx, G.pass _ (by simp) ho⟩
end Go.Proofs.Ytodigegjngnknaa
namespace Go.Proofs.Ytodigegjngnknaa
open Go.RowKit GW NL
/-- what Bits returns -/
def outB (e : Int) (v : Nat) : Int × Int := if e ≠ 0 then (0, e) else ((nb v : Int), 0)
end Go.Proofs.Ytodigegjngnknaa
namespace Go.Proofs.Ytodigegjngnknaa
open Go.RowKit GW NL
/-- what Int returns -/
def outI (e : Int) (v : Nat) : Int × Int := if e ≠ 0 then (0, e) else if 63 < nb v then (0, 5) else ((v : Int), 0)
theorem two_parts {l : List Nat} (h : Ok l) (hv : val l < 9223372036854775808) : l.getD 0 0 = val l % 4294967296 ∧ l.getD 1 0 = val l / 4294967296 := by
  have h0 := getD_val l h 0
  have h1 := getD_val l h 1
  rw [Nat.pow_zero, Nat.div_one] at h0
  rw [Nat.pow_one, Nat.mod_eq_of_lt (by omega)] at h1
  exact ⟨h0, h1⟩
set_option maxRecDepth 20000 in
theorem Int_any (A : Option Addr) (c : Nat) (l : List Nat) (w : World) (h : SlW w A c l) :
    Calls Try.prog 55 #[.slice A l.length c] w fun e w' => e = .returned (.tuple #[.int .i64 (outI (chk l) (val l)).1, .int .i64 (outI (chk l) (val l)).2]) ∧ Below w.heap.size w w' := by
  refine calls_b fun g => ?_
  have CK := Lib.hid (fun w h => check_any A c l w h)
  by_cases hx : chk l = 0
  · obtain ⟨e1, b1, n1'⟩ := chk_ok h.ok hx
    have CBt := Lib.hid (fun w h => length_any A c (val l) w h (by rw [← e1]; omega))
    rw [← e1] at CBt
    by_cases h63 : 63 < nb (val l)
    · have hO : outI (chk l) (val l) = (0, 5) := by unfold outI; rw [if_neg (by simpa using hx), if_pos h63]
      rw [hO]
      rw [hx] at CK
      have h63i : (63 : Int) < (nb (val l) : Nat) := by omega
      clear hx e1 b1 n1' hO h63
      generalize nb (val l) = v at *
      generalize l.length = n at *
      go_enter Try.func55, Try.ntmps55
      go_wp2_with (with_reducible refine G.any_mark _ ?_; (try generalize Array.size (World.heap (G.w _)) = bk); (try dsimp only [List.set_cons_zero, List.set_cons_succ]); (try clear g); intro g)
      refine (CK.out _ (G.sl g (by simp) h)).mono ?_
      rintro e w1 ⟨rfl, hb⟩
      obtain ⟨g1, rfl⟩ := G.call_ex _ hb
      clear hb
      (try clear g)
      revert g1
      intro g
      go_wp2_with (with_reducible refine G.any_mark _ ?_; (try generalize Array.size (World.heap (G.w _)) = bk); (try dsimp only [List.set_cons_zero, List.set_cons_succ]); (try clear g); intro g)
      refine (CBt.out _ (G.sl g (by simp) h)).mono ?_
      rintro e w1 ⟨rfl, hb⟩
      obtain ⟨g1, rfl⟩ := G.call_ex _ hb
      clear hb
      (try clear g)
      revert g1
      intro g
      go_wp2_with (with_reducible refine G.any_mark _ ?_; (try generalize Array.size (World.heap (G.w _)) = bk); (try dsimp only [List.set_cons_zero, List.set_cons_succ]); (try clear g); intro g)
      go_ret2
      exact ⟨rfl, g.below⟩
    · have hO : outI (chk l) (val l) = ((val l : Int), 0) := by unfold outI; rw [if_neg (by simpa using hx), if_neg h63]
      have hv : val l < 9223372036854775808 := by
        have := (nb_le (val l) 63).1 (by omega)
        simpa using this
      obtain ⟨p0, p1⟩ := two_parts h.ok hv
      have CL0 := Lib.hid (fun w h => limb_any A c l 0 w h (by omega))
      have CL1 := Lib.hid (fun w h => limb_any A c l 1 w h (by omega))
      rw [hO]
      rw [hx] at CK
      have h63i : ¬ ((63 : Int) < (nb (val l) : Nat)) := by omega
      rw [show ((0 : Nat) : Int) = 0 from rfl] at CL0
      rw [show ((1 : Nat) : Int) = 1 from rfl] at CL1
      clear hx e1 b1 n1' hO h63
      generalize l.getD 0 0 = x at *
      generalize l.getD 1 0 = y at *
      generalize val l = V at *
      have hyV : y * 4294967296 + x = V := by omega
      have hx9 : x < 4294967296 := by omega
      have hy9 : y < 2147483648 := by omega
      have hor : bits .or .i64 ((y : Int) * 4294967296) (x : Int) = (V : Int) := by
        rw [show (y : Int) * 4294967296 = ((y * 4294967296 : Nat) : Int) by omega, K3.or_i64_comm, K3.or_i64_add _ _ 32 (by omega) (by omega) (by omega) (by omega)]
        omega
      have hw1 : IntKind.i64.wrap (y : Int) = (y : Int) := by rw [IntKind.wrap_i64]; omega
      have hw2 : IntKind.i64.wrap (x : Int) = (x : Int) := by rw [IntKind.wrap_i64]; omega
      have hw3 : IntKind.i64.wrap ((y : Int) * 4294967296) = (y : Int) * 4294967296 := by rw [IntKind.wrap_i64]; omega
      clear p0 p1 hyV
      generalize nb V = v at *
      generalize l.length = n at *
      go_enter Try.func55, Try.ntmps55
      go_wp2_with (with_reducible refine G.any_mark _ ?_; (try generalize Array.size (World.heap (G.w _)) = bk); (try dsimp only [List.set_cons_zero, List.set_cons_succ]); (try clear g); intro g)
      refine (CK.out _ (G.sl g (by simp) h)).mono ?_
      rintro e w1 ⟨rfl, hb⟩
      obtain ⟨g1, rfl⟩ := G.call_ex _ hb
      clear hb
      (try clear g)
      revert g1
      intro g
      go_wp2_with (with_reducible refine G.any_mark _ ?_; (try generalize Array.size (World.heap (G.w _)) = bk); (try dsimp only [List.set_cons_zero, List.set_cons_succ]); (try clear g); intro g)
      refine (CBt.out _ (G.sl g (by simp) h)).mono ?_
      rintro e w1 ⟨rfl, hb⟩
      obtain ⟨g1, rfl⟩ := G.call_ex _ hb
      clear hb
      (try clear g)
      revert g1
      intro g
      go_wp2_with (with_reducible refine G.any_mark _ ?_; (try generalize Array.size (World.heap (G.w _)) = bk); (try dsimp only [List.set_cons_zero, List.set_cons_succ]); (try clear g); intro g)
      refine (CL1.out _ (G.sl g (by simp) h)).mono ?_
      rintro e w1 ⟨rfl, rfl⟩
      go_wp2_with (with_reducible refine G.any_mark _ ?_; (try generalize Array.size (World.heap (G.w _)) = bk); (try dsimp only [List.set_cons_zero, List.set_cons_succ]); (try clear g); intro g)
      refine (CL0.out _ (G.sl g (by simp) h)).mono ?_
      rintro e w1 ⟨rfl, rfl⟩
      go_wp2_with (with_reducible refine G.any_mark _ ?_; (try generalize Array.size (World.heap (G.w _)) = bk); (try dsimp only [List.set_cons_zero, List.set_cons_succ]); (try clear g); intro g)
      go_ret2
      exact ⟨rfl, g.below⟩
  · have hx' : (chk l == 0) = false := by simpa using hx
    have hO : outI (chk l) (val l) = (0, chk l) := by unfold outI; rw [if_pos hx]
    rw [hO]
    clear hO hx
    generalize chk l = r at *
    generalize l.length = n at *
    go_enter Try.func55, Try.ntmps55
    go_wp2_with (with_reducible refine G.any_mark _ ?_; (try generalize Array.size (World.heap (G.w _)) = bk); (try dsimp only [List.set_cons_zero, List.set_cons_succ]); (try clear g); intro g)
    refine (CK.out _ (G.sl g (by simp) h)).mono ?_
    rintro e w1 ⟨rfl, hb⟩
    obtain ⟨g1, rfl⟩ := G.call_ex _ hb
    clear hb
    (try clear g)
    revert g1
    intro g
    go_wp2_with (with_reducible refine G.any_mark _ ?_; (try generalize Array.size (World.heap (G.w _)) = bk); (try dsimp only [List.set_cons_zero, List.set_cons_succ]); (try clear g); intro g)
    go_ret2
    exact ⟨rfl, g.below⟩
theorem drop_lt {l : List Nat} (h : Ok l) (k : Nat) (hv : val l < 9223372036854775808) : val (l.drop (k + 1)) * 4294967296 + l.getD k 0 < 9223372036854775808 := by
  have := val_drop_getD l k
  have h2 := val_div l h k
  have := Nat.div_le_self (val l) (4294967296 ^ k)
  omega
set_option maxRecDepth 20000 in
theorem rInt_any (A : Option Addr) (c : Nat) (l : List Nat) (w : World) (h : SlW w A c l) :
    Calls Try.prog 60 #[.slice A l.length c] w fun e w' => e = .returned (.tuple #[.int .i64 (outI (chk l) (val l)).1, .int .i64 (outI (chk l) (val l)).2]) ∧ Below w.heap.size w w' := by
  refine calls_b fun g => ?_
  have CK := Lib.hid (fun w h => rcheck_any A c l w h)
  by_cases hx : chk l = 0
  · obtain ⟨e1, b1, n1'⟩ := chk_ok h.ok hx
    have CBt := Lib.hid (fun w h => rbits_any A c (val l) w h (by rw [← e1]; omega))
    rw [← e1] at CBt
    by_cases h63 : 63 < nb (val l)
    · have hO : outI (chk l) (val l) = (0, 5) := by unfold outI; rw [if_neg (by simpa using hx), if_pos h63]
      rw [hO]
      rw [hx] at CK
      have h63i : (63 : Int) < (nb (val l) : Nat) := by omega
      clear hx e1 b1 n1' hO h63
      generalize nb (val l) = v at *
      generalize l.length = n at *
      go_enter Try.func60, Try.ntmps60
      go_wp2_with (with_reducible refine G.any_mark _ ?_; (try generalize Array.size (World.heap (G.w _)) = bk); (try dsimp only [List.set_cons_zero, List.set_cons_succ]); (try clear g); intro g)
      refine (CK.out _ (G.sl g (by simp) h)).mono ?_
      rintro e w1 ⟨rfl, hb⟩
      obtain ⟨g1, rfl⟩ := G.call_ex _ hb
      clear hb
      (try clear g)
      revert g1
      intro g
      go_wp2_with (with_reducible refine G.any_mark _ ?_; (try generalize Array.size (World.heap (G.w _)) = bk); (try dsimp only [List.set_cons_zero, List.set_cons_succ]); (try clear g); intro g)
      refine (CBt.out _ (G.sl g (by simp) h)).mono ?_
      rintro e w1 ⟨rfl, hb⟩
      obtain ⟨g1, rfl⟩ := G.call_ex _ hb
      clear hb
      (try clear g)
      revert g1
      intro g
      go_wp2_with (with_reducible refine G.any_mark _ ?_; (try generalize Array.size (World.heap (G.w _)) = bk); (try dsimp only [List.set_cons_zero, List.set_cons_succ]); (try clear g); intro g)
      go_ret2
      exact ⟨rfl, g.below⟩
    · have hO : outI (chk l) (val l) = ((val l : Int), 0) := by unfold outI; rw [if_neg (by simpa using hx), if_neg h63]
      have hv : val l < 9223372036854775808 := by
        have := (nb_le (val l) 63).1 (by omega)
        simpa using this
      have hok := h.ok
      rw [hO]
      rw [hx] at CK
      have h63i : ¬ ((63 : Int) < (nb (val l) : Nat)) := by omega
      have HV := Lib.hid hv
      have n9 : l.length ≤ 256 := n1'
      clear hx e1 b1 n1' hO h63 hv
      generalize nb (val l) = v at *
      obtain ⟨n, hn⟩ : ∃ n, l.length = n := ⟨_, rfl⟩
      rw [hn] at CK CBt n9 ⊢
      have HN := Lib.hid hn
      clear hn
      go_enter Try.func60, Try.ntmps60
      go_wp2_with (with_reducible refine G.any_mark _ ?_; (try generalize Array.size (World.heap (G.w _)) = bk); (try dsimp only [List.set_cons_zero, List.set_cons_succ]); (try clear g); intro g)
      refine (CK.out _ (G.sl g (by simp) h)).mono ?_
      rintro e w1 ⟨rfl, hb⟩
      obtain ⟨g1, rfl⟩ := G.call_ex _ hb
      clear hb
      (try clear g)
      revert g1
      intro g
      go_wp2_with (with_reducible refine G.any_mark _ ?_; (try generalize Array.size (World.heap (G.w _)) = bk); (try dsimp only [List.set_cons_zero, List.set_cons_succ]); (try clear g); intro g)
      refine (CBt.out _ (G.sl g (by simp) h)).mono ?_
      rintro e w1 ⟨rfl, hb⟩
      obtain ⟨g1, rfl⟩ := G.call_ex _ hb
      clear hb
      (try clear g)
      revert g1
      intro g
      go_wp2_with (with_reducible refine G.any_mark _ ?_; (try generalize Array.size (World.heap (G.w _)) = bk); (try dsimp only [List.set_cons_zero, List.set_cons_succ]); (try clear g); intro g)
      go_loopg [5, 6] n (fun gk s5 s6 wr => gk ≤ n ∧ s6 = .int .i64 ((gk : Int) - 1) ∧ s5 = .int .i64 ((val (l.drop gk) : Nat) : Int) ∧ ∃ g : G w [] [] [heapOf w], wr = g.w)
      case atStart => exact ⟨Nat.le_refl _, rfl, by rw [List.drop_of_length_le (by rw [HN.out]; exact Nat.le_refl _)]; rfl, g, rfl⟩
      case round =>
        clear g CBt CK
        obtain ⟨hg, rfl, rfl, g, rfl⟩ := hrel
        cases gk with
        | zero =>
          have HZ : Hid (val (l.drop 0) = val l) := Lib.hid (by rw [List.drop_zero])
          generalize val (l.drop 0) = O at *
          go_wp2_with (with_reducible refine G.any_mark _ ?_; (try generalize Array.size (World.heap (G.w _)) = bk); (try dsimp only [List.set_cons_zero, List.set_cons_succ]); (try clear g); intro g)
          go_ret2
          exact ⟨ret_tup2 (by rw [HZ.out]) rfl, g.below⟩
        | succ k =>
          rw [show ((k + 1 : Nat) : Int) - 1 = (k : Int) by omega]
          obtain ⟨b, o, rfl, hcell⟩ := lim_cells h.lim (by rw [HN.out]; omega)
          have e0 := hcell k (by rw [HN.out]; omega) _ _ _ _ g (by simp)
          clear hcell
          have hd := drop_lt hok k HV.out
          have hdv := val_drop_getD l k
          have hX := hok.getD k
          have hki : (k : Int) < (n : Int) := by omega
          have hk0 : (0 : Int) ≤ (k : Int) := by omega
          generalize val (l.drop (k + 1)) = O at *
          generalize l.getD k 0 = X at *
          obtain ⟨O2, hO2⟩ : ∃ O2, val (l.drop k) = O2 := ⟨_, rfl⟩
          rw [hO2] at hdv
          have hor : bits .or .i64 ((O : Int) * 4294967296) (X : Int) = (O2 : Int) := by
            rw [show (O : Int) * 4294967296 = ((O * 4294967296 : Nat) : Int) by omega, K3.or_i64_comm, K3.or_i64_add _ _ 32 (by omega) (by omega) (by omega) (by omega)]
            omega
          have hw2 : IntKind.i64.wrap (X : Int) = (X : Int) := by rw [IntKind.wrap_i64]; omega
          have hw3 : IntKind.i64.wrap ((O : Int) * 4294967296) = (O : Int) * 4294967296 := by rw [IntKind.wrap_i64]; omega
          have HO2 := Lib.hid hO2
          clear hO2 hdv hd
          go_wp2_with (with_reducible refine G.any_mark _ ?_; (try generalize Array.size (World.heap (G.w _)) = bk); (try dsimp only [List.set_cons_zero, List.set_cons_succ]); (try clear g); intro g)
          go_roundg k
          case measure => omega
          case rel => exact ⟨by omega, rfl, by rw [HO2.out], g, rfl⟩
  · have hx' : (chk l == 0) = false := by simpa using hx
    have hO : outI (chk l) (val l) = (0, chk l) := by unfold outI; rw [if_pos hx]
    rw [hO]
    clear hO hx
    generalize chk l = r at *
    generalize l.length = n at *
    go_enter Try.func60, Try.ntmps60
    go_wp2_with (with_reducible refine G.any_mark _ ?_; (try generalize Array.size (World.heap (G.w _)) = bk); (try dsimp only [List.set_cons_zero, List.set_cons_succ]); (try clear g); intro g)
    refine (CK.out _ (G.sl g (by simp) h)).mono ?_
    rintro e w1 ⟨rfl, hb⟩
    obtain ⟨g1, rfl⟩ := G.call_ex _ hb
    clear hb
    (try clear g)
    revert g1
    intro g
    go_wp2_with (with_reducible refine G.any_mark _ ?_; (try generalize Array.size (World.heap (G.w _)) = bk); (try dsimp only [List.set_cons_zero, List.set_cons_succ]); (try clear g); intro g)
    go_ret2
    exact ⟨rfl, g.below⟩
end Go.Proofs.Ytodigegjngnknaa
namespace Go.Proofs.Ytodigegjngnknaa
open Go.RowKit GW NL
theorem Row.pre {T : TypeId} {n m cap : Nat} {xs : List Nat} {cs : List Value} (h : Row T 1 n (u32s xs) cap cs) (hm : m ≤ n) : Row T 1 m (u32s (xs.take m)) cap cs := by
  have hx := h.xl
  rw [u32s_len] at hx
  refine ⟨Nat.le_trans hm h.le, h.max, h.len, ?_, by rw [u32s_len, List.length_take]; omega⟩
  have ht := h.take
  rw [Nat.mul_one] at ht ⊢
  have : cs.take m = (cs.take n).take m := by rw [List.take_take, Nat.min_eq_left hm]
  rw [this, ht]
  simp [u32s, List.map_take]
theorem ret_bool {a a' : Bool} (h : a = a') : Ending.returned (.bool a) = .returned (.bool a') := by rw [h]
theorem rbelow_any (A1 A2 : Option Addr) (c1 c2 n : Nat) (l1 l2 : List Nat) (w : World) (h1 : SlW w A1 c1 l1) (h2 : SlW w A2 c2 l2) (hn1 : l1.length = n) (hn2 : l2.length = n) (hn9 : n ≤ 1000000000) :
    Calls Try.prog 88 #[.slice A1 n c1, .slice A2 n c2] w fun e w' => e = .returned (.bool (decide (val l1 < val l2))) ∧ w = w' := by
  have o1 := h1.ok
  have o2 := h2.ok
  have CL1 := Lib.hid (fun k (hk : k ≤ 1000000001) w h => rlimb_any A1 c1 l1 k w h (by omega))
  have CL2 := Lib.hid (fun k (hk : k ≤ 1000000001) w h => rlimb_any A2 c2 l2 k w h (by omega))
  rw [hn1] at CL1
  rw [hn2] at CL2
  have H1 := Lib.hid hn1
  have H2 := Lib.hid hn2
  clear hn1 hn2
  go_enter Try.func88, Try.ntmps88
  go_wp2_with fail
  go_loopg [5] n (fun gk s5 wr => gk ≤ n ∧ s5 = .int .i64 ((gk : Int) - 1) ∧ Hid (∀ j, gk ≤ j → j < n → l1.getD j 0 = l2.getD j 0) ∧ wr = w)
  case atStart => exact ⟨Nat.le_refl _, rfl, fun j h1 h2 => by omega, rfl⟩
  case round =>
    obtain ⟨hg, rfl, HE, rfl⟩ := hrel
    cases gk with
    | zero =>
      have he : l1 = l2 := eq_of_all (by rw [H1.out, H2.out]) fun j hj => HE.out j (Nat.zero_le _) (by rw [← H1.out]; exact hj)
      have HO : Hid (decide (val l1 < val l2) = false) := Lib.hid (decide_eq_false (by rw [he]; omega))
      clear he
      go_wp2_with fail
      go_ret
      exact ⟨ret_bool HO.out.symm, rfl⟩
    | succ k =>
      rw [show ((k + 1 : Nat) : Int) - 1 = (k : Int) by omega]
      have CLa := Lib.hid (CL1.out k (by omega))
      have CLb := Lib.hid (CL2.out k (by omega))
      have HAT : Hid (∀ hne, ord (val l1) (val l2) = ord (l1.getD k 0) (l2.getD k 0)) := Lib.hid (fun hne => ord_at o1 o2 (by rw [H1.out, H2.out]) (k := k) (by rw [H1.out]; omega) (fun j hj hj2 => HE.out j (by omega) (by rw [← H1.out]; exact hj2)) hne)
      obtain ⟨x, hx⟩ : ∃ x, l1.getD k 0 = x := ⟨_, rfl⟩
      obtain ⟨y, hy⟩ : ∃ y, l2.getD k 0 = y := ⟨_, rfl⟩
      rw [hx] at CLa HAT
      rw [hy] at CLb HAT
      have HX := Lib.hid hx
      have HY := Lib.hid hy
      clear hx hy
      by_cases hxy : x = y
      · subst hxy
        clear HAT
        go_wp2_with fail
        refine (CLa.out _ h1).mono ?_
        rintro e w1 ⟨rfl, rfl⟩
        go_wp2_with fail
        refine (CLb.out _ h2).mono ?_
        rintro e w1 ⟨rfl, rfl⟩
        go_wp2_with fail
        go_roundg k
        case measure => omega
        case rel => exact ⟨by omega, rfl, fun j hj1 hj2 => by
          rcases Nat.lt_or_ge k j with h | h
          · exact HE.out j (by omega) hj2
          · obtain rfl : j = k := by omega
            rw [HX.out, HY.out], rfl⟩
      · have hne : ((x : Int) == (y : Int)) = false := by rw [beq_eq_false_iff_ne]; omega
        have hne2 : ¬ ((x : Int) = (y : Int)) := by omega
        have HO : Hid (decide (val l1 < val l2) = decide ((x : Int) < (y : Int))) := Lib.hid (by
          have := HAT.out hxy
          apply decide_eq_decide.2
          unfold ord at this
          constructor
          · intro h
            rw [if_pos h] at this
            split at this
            · omega
            · split at this <;> omega
          · intro h
            rw [if_pos (show x < y by omega)] at this
            split at this
            · assumption
            · split at this <;> omega)
        clear HAT hxy
        go_wp2_with fail
        refine (CLa.out _ h1).mono ?_
        rintro e w1 ⟨rfl, rfl⟩
        go_wp2_with fail
        refine (CLb.out _ h2).mono ?_
        rintro e w1 ⟨rfl, rfl⟩
        go_wp2_with fail
        refine (CLa.out _ h1).mono ?_
        rintro e w1 ⟨rfl, rfl⟩
        go_wp2_with fail
        refine (CLb.out _ h2).mono ?_
        rintro e w1 ⟨rfl, rfl⟩
        go_wp2_with fail
        go_ret
        exact ⟨ret_bool (by rw [HO.out]; exact decide_eq_decide.2 (by omega)), rfl⟩
theorem sub_end2 {pre l1 l2 : List Nat} {n c : Nat} (ok : Ok pre) (hp : pre.length = n) (h1 : l1.length = n) (h2 : l2.length = n) (hle : val l2 ≤ val l1) (h : val pre + val (l2.take n) = val (l1.take n) + 4294967296 ^ n * c) : val pre = val l1 - val l2 :=
  (sub_end ok hp (by omega) (by omega) hle h).1
set_option maxRecDepth 20000 in
set_option maxHeartbeats 2000000 in
theorem rtake_any (b n cap : Nat) (cs : List Value) (l1 l2 : List Nat) (A2 : Option Addr) (c2 : Nat) (w : World) (hb : w.heap[b]? = some (.cells cs.toArray 82 (0, 0))) (hrow : Row 82 1 n (u32s l1) cap cs) (h2 : SlW w A2 c2 l2) (hap : Apart A2 b)
    (hn1 : l1.length = n) (hn2 : l2.length = n) (o1 : Ok l1) (hle : val l2 ≤ val l1) (hn9 : n ≤ 1000000000) :
    Calls Try.prog 89 #[.slice (some ⟨b, 0, none⟩) n cap, .slice A2 n c2] w fun e w' => e = .returned (.tuple #[]) ∧ Chg [b] w w' ∧ ∃ l' cs', w'.heap[b]? = some (.cells cs'.toArray 82 (0, 0)) ∧ Row 82 1 n (u32s l') cap cs' ∧ l'.length = n ∧ Ok l' ∧ val l' = val l1 - val l2 := by
  have hd := h2.but hap
  have o2 := h2.ok
  refine calls_m hb fun g => ?_
  have CL := Lib.hid (fun k (hk : k ≤ 1000000001) w h => rlimb_any A2 c2 l2 k w h (by omega))
  rw [hn2] at CL
  have H1 := Lib.hid hn1
  have H2 := Lib.hid hn2
  have HLE := Lib.hid hle
  have hle' := hrow.le
  clear hn1 hn2 hle
  go_enter Try.func89, Try.ntmps89
  go_wp2_with (with_reducible refine G.any_mark _ ?_; (try generalize Array.size (World.heap (G.w _)) = bk); (try dsimp only [List.set_cons_zero, List.set_cons_succ]); (try clear g); intro g)
  go_loopg [4, 5] n (fun gk s4 s5 wr => ∃ (k c : Nat) (pre : List Nat) (cs' : List Value), k + gk = n ∧ s4 = .int .u64 (c : Int) ∧ s5 = .int .i64 (k : Int) ∧ c ≤ 1 ∧ Hid (pre.length = k ∧ Ok pre ∧ val pre + val (l2.take k) = val (l1.take k) + 4294967296 ^ k * c) ∧ Row 82 1 n (u32s (pre ++ l1.drop k)) cap cs' ∧ ∃ g : G w [b] [(b, 82, cs')] [heapBut w b], wr = g.w)
  case atStart => exact ⟨0, 0, [], cs, by omega, rfl, rfl, by omega, ⟨rfl, Ok.nil, by simp [val]⟩, hrow, g, rfl⟩
  case round =>
    clear g hrow
    obtain ⟨k, c, pre, cs', hkg, rfl, rfl, hc1, HA, hrow, g, rfl⟩ := hrel
    by_cases hgo : k < n
    · have HA2 := Lib.hid (sub_step o1 o2 hc1 HA.out.1 HA.out.2.2)
      have CLb := Lib.hid (CL.out k (by omega))
      have hx := o1.getD k
      have hy := o2.getD k
      have hpl := HA.out.1
      have hpo := HA.out.2.1
      have hcell := hrow.get (by rw [List.length_append, List.length_drop, hpl, H1.out]; omega) hgo
      rw [ten_get hpl] at hcell
      have hset := ten_set (xs := l1) (x := (l1.getD k 0 + 4294967296 - l2.getD k 0 - c) % 4294967296) hpl (by rw [H1.out]; exact hgo)
      have hrow2 := hrow.set (x := (l1.getD k 0 + 4294967296 - l2.getD k 0 - c) % 4294967296) hgo
      rw [hset] at hrow2
      generalize l1.getD k 0 = x at *
      generalize l2.getD k 0 = y at *
      obtain ⟨d, hd'⟩ : ∃ d : Nat, ((x : Int) - (y : Int)) % 18446744073709551616 = (d : Int) := ⟨(((x : Int) - (y : Int)) % 18446744073709551616).toNat, by omega⟩
      obtain ⟨t, ht⟩ : ∃ t : Nat, ((d : Int) - (c : Int)) % 18446744073709551616 = (t : Int) := ⟨(((d : Int) - (c : Int)) % 18446744073709551616).toNat, by omega⟩
      have f3 : IntKind.u64.wrap ((x : Int) - (y : Int)) = (d : Int) := by rw [IntKind.wrap_u64]; exact hd'
      have f4 : IntKind.u64.wrap ((d : Int) - (c : Int)) = (t : Int) := by rw [IntKind.wrap_u64]; exact ht
      have f7 : IntKind.u64.wrap (x : Int) = (x : Int) := by rw [IntKind.wrap_u64]; omega
      obtain ⟨lo, hlo⟩ : ∃ lo, (x + 4294967296 - y - c) % 4294967296 = lo := ⟨_, rfl⟩
      obtain ⟨c', hc'⟩ : ∃ c', brw x y c = c' := ⟨_, rfl⟩
      have hb' : (x < y + c ∧ c' = 1) ∨ (y + c ≤ x ∧ c' = 0) := by unfold brw at hc'; split at hc' <;> omega
      have f5 : IntKind.u32.wrap (t : Int) = (lo : Int) := by rw [IntKind.wrap_u32]; omega
      have f6 : (t : Int) / 9223372036854775808 = (c' : Int) := by omega
      have hc1' : c' ≤ 1 := by omega
      have hlo9 : lo < 4294967296 := by omega
      rw [hlo, hc'] at HA2
      rw [hlo] at hrow2
      have HROW := Lib.hid hrow2
      have HA3 : Hid ((pre ++ [lo]).length = k + 1 ∧ Ok (pre ++ [lo]) ∧ val (pre ++ [lo]) + val (l2.take (k + 1)) = val (l1.take (k + 1)) + 4294967296 ^ (k + 1) * c') := Lib.hid ⟨by rw [List.length_append, hpl]; rfl, hpo.append (Ok.cons hlo9 Ok.nil), HA2.out⟩
      have hki : (k : Int) < (n : Int) := by omega
      have hgk : 0 < gk := by omega
      clear hd' ht hlo hc' hb' HA2 hset hrow2 hrow
      go_wp2_with (with_reducible refine G.any_mark _ ?_; (try generalize Array.size (World.heap (G.w _)) = bk); (try dsimp only [List.set_cons_zero, List.set_cons_succ]); (try clear g); intro g)
      go_region_held3 (fun w' => w'.cell? ⟨b, k, none⟩ = some (.int .u32 (x : Int))) ((simp only [G.drew_eq, G.drewN_eq, G.cell0]; exact hcell)) ((go_at_call 111; refine (CLb.out _ (G.sl _ (by simp) hd)).mono ?_; rintro e w1 ⟨rfl, rfl⟩))
      ((try simp only [G.drew_eq, G.drewN_eq]); (refine G.any_mark _ ?_; (try generalize Array.size (World.heap (G.w _)) = bk); (try dsimp only [List.set_cons_zero, List.set_cons_succ]); (try clear g); intro g))
      go_wp2_with (with_reducible refine G.any_mark _ ?_; (try generalize Array.size (World.heap (G.w _)) = bk); (try dsimp only [List.set_cons_zero, List.set_cons_succ]); (try clear g); intro g)
      go_roundg (gk - 1)
      case measure => omega
      case rel => exact ⟨k + 1, c', pre ++ [lo], _, by omega, rfl, by go_num, hc1', HA3, HROW.out, g, rfl⟩
    · obtain rfl : k = n := by omega
      obtain ⟨hpl, hpo, heq⟩ := HA.out
      have HEND := Lib.hid (sub_end2 hpo hpl H1.out H2.out HLE.out heq)
      rw [List.drop_of_length_le (by rw [H1.out]; exact Nat.le_refl _), List.append_nil] at hrow
      have hki : ¬ ((k : Int) < (k : Int)) := by omega
      have HROW := Lib.hid hrow
      have HPL := Lib.hid hpl
      clear hpl heq hrow
      go_wp2_with (with_reducible refine G.any_mark _ ?_; (try generalize Array.size (World.heap (G.w _)) = bk); (try dsimp only [List.set_cons_zero, List.set_cons_succ]); (try clear g); intro g)
      go_end0
      exact ⟨rfl, g.chg, pre, cs', g.blk0, HROW.out, HPL.out, hpo, HEND.out⟩
end Go.Proofs.Ytodigegjngnknaa
namespace Go.Proofs.Ytodigegjngnknaa
open Go.RowKit GW NL
set_option maxRecDepth 20000 in
set_option maxHeartbeats 4000000 in
theorem rhalve_any (b n cap : Nat) (cs : List Value) (l : List Nat) (w : World) (hb : w.heap[b]? = some (.cells cs.toArray 82 (0, 0))) (hrow : Row 82 1 n (u32s l) cap cs)
    (hn1 : l.length = n) (o1 : Ok l) (hn9 : n ≤ 1000000000) :
    Calls Try.prog 90 #[.slice (some ⟨b, 0, none⟩) n cap] w fun e w' => e = .returned (.tuple #[]) ∧ Chg [b] w w' ∧ ∃ l' cs', w'.heap[b]? = some (.cells cs'.toArray 82 (0, 0)) ∧ Row 82 1 n (u32s l') cap cs' ∧ l'.length = n ∧ Ok l' ∧ val l' = val l / 2 := by
  refine calls_m hb fun g => ?_
  have H1 := Lib.hid hn1
  have hle' := hrow.le
  clear hn1
  go_enter Try.func90, Try.ntmps90
  go_wp2_with (with_reducible refine G.any_mark _ ?_; (try generalize Array.size (World.heap (G.w _)) = bk); (try dsimp only [List.set_cons_zero, List.set_cons_succ]); (try clear g); intro g)
  go_loopg [2] n (fun gk s2 wr => ∃ (k : Nat) (pre : List Nat) (cs' : List Value), k + gk = n ∧ s2 = .int .i64 (k : Int) ∧ Hid (pre.length = k ∧ Ok pre ∧ val pre = val l / 2 ^ 1 % 4294967296 ^ k) ∧ Row 82 1 n (u32s (pre ++ l.drop k)) cap cs' ∧ ∃ g : G w [b] [(b, 82, cs')] [heapBut w b], wr = g.w)
  case atStart => exact ⟨0, [], cs, by omega, rfl, ⟨rfl, Ok.nil, by simp [val, Nat.mod_one]⟩, hrow, g, rfl⟩
  case round =>
    clear g hrow
    obtain ⟨k, pre, cs', hkg, rfl, HA, hrow, g, rfl⟩ := hrel
    by_cases hgo : k < n
    · have hpl := HA.out.1
      have hpo := HA.out.2.1
      have dl := down_limb o1 k 1 (by decide)
      have st := low_step hpl HA.out.2.2 dl
      have hlen : (pre ++ l.drop k).length = n := by rw [List.length_append, List.length_drop, hpl, H1.out]; omega
      have hcell := hrow.get hlen hgo
      rw [ten_get hpl] at hcell
      have hset := ten_set (xs := l) (x := (l.getD k 0 + 4294967296 * l.getD (k + 1) 0) / 2 ^ 1 % 4294967296) hpl (by rw [H1.out]; exact hgo)
      have hrow2 := hrow.set (x := (l.getD k 0 + 4294967296 * l.getD (k + 1) 0) / 2 ^ 1 % 4294967296) hgo
      rw [hset] at hrow2
      have hsl := fun (g : G w [b] [(b, 82, cs')] [heapBut w b]) => (sl_row (b := b) hrow hlen (by omega) (hpo.append (o1.drop k))).at (blkF_sub g.blk0)
      have hgd : (pre ++ l.drop k).getD (k + 1) 0 = l.getD (k + 1) 0 := by
        rw [List.getD_eq_getElem?_getD, List.getElem?_append_right (by omega), hpl, List.getElem?_drop, show k + (k + 1 - k) = k + 1 by omega, ← List.getD_eq_getElem?_getD]
      have CL := Lib.hid (fun w h => rlimb_any (some ⟨b, 0, none⟩) cap (pre ++ l.drop k) (k + 1) w h (by omega))
      rw [hgd, hlen] at CL
      have hx := o1.getD k
      have hy := o1.getD (k + 1)
      generalize l.getD k 0 = x at *
      generalize l.getD (k + 1) 0 = y at *
      obtain ⟨lo, hlo⟩ : ∃ lo, (x + 4294967296 * y) / 2 ^ 1 % 4294967296 = lo := ⟨_, rfl⟩
      rw [hlo] at st hrow2
      obtain ⟨xh, hxh⟩ : ∃ xh, x / 2 = xh := ⟨_, rfl⟩
      obtain ⟨yt, hyt⟩ : ∃ yt, y * 2147483648 % 4294967296 = yt := ⟨_, rfl⟩
      have hlo2 : yt + xh = lo := by rw [Nat.pow_one] at hlo; omega
      have hor : bits .or .u32 (xh : Int) (yt : Int) = (lo : Int) := by
        rw [K3.or32_add _ _ 31 (by omega) (by omega) (by omega) (by omega), hlo2]
      have f1 : (x : Int) / 2 = (xh : Int) := by omega
      have f2 : IntKind.u32.wrap ((y : Int) * 2147483648) = (yt : Int) := by rw [IntKind.wrap_u32]; omega
      have f3 : IntKind.u64.wrap ((y : Int) * 2147483648) = (y : Int) * 2147483648 := by rw [IntKind.wrap_u64]; omega
      have f4 : (y : Int) * 2147483648 % 4294967296 = (yt : Int) := by omega
      have hlo9 : lo < 4294967296 := by rw [← hlo]; exact Nat.mod_lt _ (by decide)
      have HROW := Lib.hid hrow2
      have HA2 : Hid ((pre ++ [lo]).length = k + 1 ∧ Ok (pre ++ [lo]) ∧ val (pre ++ [lo]) = val l / 2 ^ 1 % 4294967296 ^ (k + 1)) := Lib.hid ⟨by rw [List.length_append, hpl]; rfl, hpo.append (Ok.cons hlo9 Ok.nil), st⟩
      have HSL := Lib.hid hsl
      have hki : (k : Int) < (n : Int) := by omega
      have hk1 : IntKind.i64.wrap ((k : Int) + 1) = (k : Int) + 1 := by rw [IntKind.wrap_i64]; omega
      have hc1 : ((k + 1 : Nat) : Int) = (k : Int) + 1 := by omega
      rw [hc1] at CL
      have hgk : 0 < gk := by omega
      clear hlo hxh hyt hlo2 hset hrow2 hrow hgd hlen dl st hsl hc1
      go_wp2_with (with_reducible refine G.any_mark _ ?_; (try generalize Array.size (World.heap (G.w _)) = bk); (try dsimp only [List.set_cons_zero, List.set_cons_succ]); (try clear g); intro g)
      go_region_with ((go_at_call 111; refine (CL.out _ (HSL.out _)).mono ?_; rintro e w1 ⟨rfl, rfl⟩))
      all_goals ((try simp only [G.drew_eq, G.drewN_eq]); (refine G.any_mark _ ?_; (try generalize Array.size (World.heap (G.w _)) = bk); (try dsimp only [List.set_cons_zero, List.set_cons_succ]); (try clear g); intro g))
      all_goals go_wp2_with (with_reducible refine G.any_mark _ ?_; (try generalize Array.size (World.heap (G.w _)) = bk); (try dsimp only [List.set_cons_zero, List.set_cons_succ]); (try clear g); intro g)
      all_goals go_roundg (gk - 1)
      all_goals first | omega | exact ⟨k + 1, pre ++ [lo], _, by omega, by go_num, HA2, HROW.out, g, rfl⟩
    · obtain rfl : k = n := by omega
      obtain ⟨hpl, hpo, heq⟩ := HA.out
      have hend := down_end (s := 1) o1 (n := k) (by rw [H1.out]; exact Nat.le_refl _) heq
      rw [Nat.pow_one] at hend
      rw [List.drop_of_length_le (by rw [H1.out]; exact Nat.le_refl _), List.append_nil] at hrow
      have hki : ¬ ((k : Int) < (k : Int)) := by omega
      have HROW := Lib.hid hrow
      have HPL := Lib.hid hpl
      have HEND := Lib.hid hend
      clear hpl heq hrow hend
      go_wp2_with (with_reducible refine G.any_mark _ ?_; (try generalize Array.size (World.heap (G.w _)) = bk); (try dsimp only [List.set_cons_zero, List.set_cons_succ]); (try clear g); intro g)
      go_end0
      exact ⟨rfl, g.chg, pre, cs', g.blk0, HROW.out, HPL.out, hpo, HEND.out⟩
end Go.Proofs.Ytodigegjngnknaa
namespace Go.Proofs.Ytodigegjngnknaa
open Go.RowKit GW NL
/-- What is returned reads as the limbs l, in a block of its own that may be written. -/
def ROwn (l : List Nat) (w : World) (e : Ending) (w' : World) : Prop := ∃ b cap cs, e = .returned (.slice (some ⟨b, 0, none⟩) l.length cap) ∧ Row 82 1 l.length (u32s l) cap cs ∧ Below w.heap.size w w' ∧ w.heap.size ≤ b ∧ w'.heap[b]? = some (.cells cs.toArray 82 (0, 0))
theorem own_own (A : Option Addr) (c : Nat) (l : List Nat) (w : World) (h : SlW w A c l) (hl9 : l.length ≤ 35184372088832) (hl : 0 < l.length) :
    Calls Try.prog 86 #[.slice A l.length c] w (ROwn l w) := by
  refine calls_b fun g => ?_
  obtain ⟨b, o, rfl, _⟩ := lim_cells h.lim hl
  have hnews := fun (M : List Blk) (g : G w [] M [heapOf w]) => lim_news g (List.mem_cons_self ..) h.lim
  obtain ⟨n, hn⟩ : ∃ n, l.length = n := ⟨_, rfl⟩
  rw [hn] at hl hl9 ⊢
  have HN := Lib.hid hn
  clear hn
  obtain ⟨i0, hi, hz0, hz1, hz2⟩ := info_parts infoU32
  go_enter Try.func86, Try.ntmps86
  go_wp2_with (first | (with_reducible refine G.any_mark _ ?_; (try generalize Array.size (World.heap (G.w _)) = bk); (try dsimp only [List.set_cons_zero, List.set_cons_succ]); (try clear g); intro g) | (at_builtin; refine wpList_append_e rfl _ _ 64 rfl 82 i0 _ 1 4 Try.underlying64 hi hz0 hz1 hz2 rfl (by decide) g (by exact g.fresh (List.mem_cons_self ..)) rfl ⟨b, o, none⟩ n c (u32s l) rfl (by rw [u32s_len, HN.out, Nat.mul_one]) (hnews _ g) (u32s_one l) hl (by show n ≤ 9223372036854775807; omega) (by omega) ?_; intro b2 cap cs g hb2 hr))
  go_ret
  exact ⟨b2, cap, cs, ret_slice HN.out.symm, by rw [HN.out]; exact hr, g.below, hb2, g.blk0⟩
set_option maxRecDepth 20000 in
set_option maxHeartbeats 2000000 in
theorem rshift_own (A : Option Addr) (c : Nat) (l : List Nat) (s : Nat) (w : World) (h : SlW w A c l) (hl : l.length ≤ 1000000000) (hs : s ≤ 1000000000) :
    Calls Try.prog 87 #[.slice A l.length c, .int .i64 (s : Int)] w (ROwn (limbs (val l * 2 ^ s)) w) := by
  refine calls_b fun g => ?_
  obtain ⟨n1, hn1⟩ : ∃ n : Nat, l.length = n := ⟨_, rfl⟩
  obtain ⟨q, hq⟩ : ∃ q : Nat, s / 32 = q := ⟨_, rfl⟩
  obtain ⟨r, hr⟩ : ∃ r : Nat, s % 32 = r := ⟨_, rfl⟩
  have hr32 : r < 32 := by omega
  have hq9 : q ≤ 1000000000 := by omega
  have hqi : Int.tdiv (s : Int) 32 = (q : Int) := by rw [Int.tdiv_eq_ediv_of_nonneg (by omega)]; omega
  have hri : Int.tmod (s : Int) 32 = (r : Int) := by rw [Int.tmod_eq_emod_of_nonneg (by omega)]; omega
  have hpow : 4294967296 ^ q * 2 ^ r = 2 ^ s := by rw [pow32, ← Nat.pow_add]; congr 1; omega
  have HP := Lib.hid hpow
  have hs0 : ¬ ((s : Int) < 0) := by omega
  rw [hn1]
  have HN1 := Lib.hid hn1
  have hn9 : n1 ≤ 1000000000 := by omega
  have hmk := fun w => make_nat q (by omega) w
  have HZ : Hid (Row 82 1 q (u32s (List.replicate q 0)) q (u32s (List.replicate q 0))) := Lib.hid ⟨Nat.le_refl _, by show q ≤ 9223372036854775807; omega, by rw [u32s_len, List.length_replicate, Nat.mul_one], by rw [Nat.mul_one, List.take_of_length_le (by rw [u32s_len, List.length_replicate]; exact Nat.le_refl _)], by rw [u32s_len, List.length_replicate, Nat.mul_one]⟩
  obtain ⟨i0, hi, hzz0, hzz1, hzz2⟩ := info_parts infoU32
  have hc0 : Hid ((0 : Nat) < 2 ^ r) := Lib.hid (Nat.two_pow_pos r)
  clear hn1 hq hr hpow hl
  generalize (s : Int) = si at *
  go_enter Try.func87, Try.ntmps87
  go_wp2_with (with_reducible refine G.any_mark _ ?_; (try generalize Array.size (World.heap (G.w _)) = bk); (try dsimp only [List.set_cons_zero, List.set_cons_succ]); (try clear g); intro g)
  obtain ⟨zb, rfl⟩ : ∃ zb : Nat, zb = bk := ⟨_, rfl⟩
  have hzb : w.heap.size ≤ zb := g.fresh (List.mem_cons_self ..)
  go_loopg [7, 8, 9] n1 (fun gk s7 s8 s9 wr => ∃ (k c : Nat) (pre : List Nat) (b cap : Nat) (cs : List Value), k + gk = n1 ∧ s8 = .int .u64 (c : Int) ∧ s9 = .int .i64 (k : Int) ∧ c < 4294967296 ∧ Hid (c < 2 ^ r ∧ pre.length = k ∧ Ok pre ∧ val pre + 4294967296 ^ k * c = val (l.take k) * 2 ^ r) ∧ s7 = .slice (some ⟨b, 0, none⟩) (q + k) cap ∧ Row 82 1 (q + k) (u32s (List.replicate q 0 ++ pre)) cap cs ∧ w.heap.size ≤ b ∧ ∃ g : G w [] [(b, 82, cs)] [heapOf w], wr = g.w)
  case atStart => exact ⟨0, 0, [], zb, q, _, by omega, rfl, rfl, by omega, ⟨hc0.out, rfl, Ok.nil, by simp [val]⟩, rfl, by rw [List.append_nil]; exact HZ.out, hzb, g, rfl⟩
  case round =>
    clear g hmk HZ hzb
    obtain ⟨k, c, pre, b', cap, cs, hkg, rfl, rfl, hc9, HI, rfl, hrow, hb, g, rfl⟩ := hrel
    have hr0 : ¬ ((r : Int) < 0) := by omega
    have hr1 : (0 : Int) ≤ (r : Int) := by omega
    by_cases hk : k < n1
    · obtain ⟨b, o, rfl, hcell⟩ := lim_cells h.lim (by rw [HN1.out]; omega)
      have e0 := hcell k (by rw [HN1.out]; omega) _ _ _ _ g (by simp)
      clear hcell
      have hX := h.ok.getD k
      have hun := up_next (l := l) HI.out.2.1 hr32 HI.out.1 rfl hX HI.out.2.2.2
      have hdis : bits .or .u64 (c : Int) ((l.getD k 0 * 2 ^ r : Nat) : Int) = ((l.getD k 0 * 2 ^ r + c : Nat) : Int) := K3.or64_add _ _ r (by omega) HI.out.1 (by omega) (Nat.mul_mod_left _ _)
      have hlt2 : l.getD k 0 * 2 ^ r < 18446744073709551616 := by omega
      have hpo := HI.out.2.2.1
      have hpl := HI.out.2.1
      generalize l.getD k 0 = X at *
      have hsh : IntKind.u64.wrap ((X : Int) * 2 ^ r) = ((X * 2 ^ r : Nat) : Int) := by
        rw [show (X : Int) * 2 ^ r = ((X * 2 ^ r : Nat) : Int) by rw [Int.natCast_mul, Int.natCast_pow]; rfl, IntKind.wrap_u64]
        omega
      have hwX : IntKind.u64.wrap (X : Int) = (X : Int) := by rw [IntKind.wrap_u64]; omega
      generalize X * 2 ^ r = y at *
      obtain ⟨t, ht⟩ : ∃ t, y + c = t := ⟨_, rfl⟩
      rw [ht] at hun hdis
      obtain ⟨lo, hlo⟩ : ∃ lo, t % 4294967296 = lo := ⟨_, rfl⟩
      obtain ⟨hi', hhi⟩ : ∃ hi', t / 4294967296 = hi' := ⟨_, rfl⟩
      have ht9 := hun.2.1
      have f5 : IntKind.u32.wrap (t : Int) = (lo : Int) := by rw [IntKind.wrap_u32]; omega
      have f6 : (t : Int) / 4294967296 = (hi' : Int) := by omega
      have hlo9 : lo < 4294967296 := by omega
      have hhi9 : hi' < 4294967296 := by omega
      rw [hlo, hhi] at hun
      have HI2 : Hid (hi' < 2 ^ r ∧ (pre ++ [lo]).length = k + 1 ∧ Ok (pre ++ [lo]) ∧ val (pre ++ [lo]) + 4294967296 ^ (k + 1) * hi' = val (l.take (k + 1)) * 2 ^ r) := Lib.hid ⟨hun.1, by rw [List.length_append, hpl]; rfl, hpo.append (Ok.cons hlo9 Ok.nil), hun.2.2⟩
      have H1 : ∀ u ∈ [Value.int .u32 (lo : Int)], u.oneCell' = true := by intro u hu; rw [List.mem_singleton.1 hu]; rfl
      have H2 : q + k + 1 ≤ maxLen := by show q + k + 1 ≤ 9223372036854775807; omega
      have H3 : (q + k + 1) * 4 ≤ 140737488355328 := by omega
      have HAP : Hid (u32s (List.replicate q 0 ++ (pre ++ [lo])) = u32s (List.replicate q 0 ++ pre) ++ [.int .u32 (lo : Int)]) := Lib.hid (by rw [← List.append_assoc, u32s_append]; rfl)
      have hki : (k : Int) < (n1 : Int) := by omega
      have hgk : 0 < gk := by omega
      have hkg2 : k + 1 + (gk - 1) = n1 := by omega
      clear hun ht hlo hhi hlt2 hX HI hpl
      go_wp2_with (first | (with_reducible refine G.any_mark _ ?_; (try generalize Array.size (World.heap (G.w _)) = bk); (try dsimp only [List.set_cons_zero, List.set_cons_succ]); (try clear g); intro g) | (at_builtin; refine wpList_append_lit rfl _ _ 65 rfl 82 i0 _ 1 4 Try.underlying65 hi hzz0 hzz1 hzz2 rfl (by decide) g hrow hb rfl 1 rfl rfl H1 (by decide) H2 H3 ?_; clear hb hrow g e0; intro b' cap cs g hb hrow))
      go_roundg (gk - 1)
      case measure => omega
      case rel => exact ⟨k + 1, hi', pre ++ [lo], b', cap, cs, hkg2, rfl, by go_num, hhi9, HI2, rfl, by rw [HAP.out]; exact hrow, hb, g, rfl⟩
    · obtain rfl : k = n1 := by omega
      have hpl := HI.out.2.1
      have heq := HI.out.2.2.2
      rw [val_take_all (by rw [HN1.out]; exact Nat.le_refl _)] at heq
      have hL : (List.replicate q 0 ++ (pre ++ [c])).length = q + k + 1 := by rw [List.length_append, List.length_append, List.length_replicate, hpl]; rfl
      have hV : val (List.replicate q 0 ++ (pre ++ [c])) = val l * 2 ^ s := by
        rw [val_append, val_zeros, val_snoc, hpl, heq, List.length_replicate, Nat.zero_add, ← HP.out, Nat.mul_left_comm]
      have hO : Ok (List.replicate q 0 ++ (pre ++ [c])) := (Ok.zeros q).append (HI.out.2.2.1.append (Ok.cons hc9 Ok.nil))
      have HAP : Hid (u32s (List.replicate q 0 ++ (pre ++ [c])) = u32s (List.replicate q 0 ++ pre) ++ [.int .u32 (c : Int)]) := Lib.hid (by rw [← List.append_assoc, u32s_append]; rfl)
      generalize List.replicate q 0 ++ (pre ++ [c]) = L at *
      have CT1 := Lib.hid (fun A cap w h => rtrim_any A cap L w h)
      rw [hL] at CT1
      have HL := Lib.hid hL
      have HV := Lib.hid hV
      have H1 : ∀ u ∈ [Value.int .u32 (c : Int)], u.oneCell' = true := by intro u hu; rw [List.mem_singleton.1 hu]; rfl
      have H2 : q + k + 1 ≤ maxLen := by show q + k + 1 ≤ 9223372036854775807; omega
      have H3 : (q + k + 1) * 4 ≤ 140737488355328 := by omega
      have f5 : IntKind.u32.wrap (c : Int) = (c : Int) := by rw [IntKind.wrap_u32]; omega
      have hki : ¬ ((k : Int) < (k : Int)) := by omega
      clear hL hV heq hpl HI
      go_wp2_with (first | (with_reducible refine G.any_mark _ ?_; (try generalize Array.size (World.heap (G.w _)) = bk); (try dsimp only [List.set_cons_zero, List.set_cons_succ]); (try clear g); intro g) | (at_builtin; refine wpList_append_lit rfl _ _ 65 rfl 82 i0 _ 1 4 Try.underlying65 hi hzz0 hzz1 hzz2 rfl (by decide) g hrow hb rfl 1 rfl rfl H1 (by decide) H2 H3 ?_; clear hb hrow g; intro b' cap cs g hb hrow))
      rw [← HAP.out] at hrow
      have hsl : SlW g.w (some ⟨b', 0, none⟩) cap L := (sl_row hrow HL.out (by omega) hO).at (blkF_sub g.blk0)
      have hsr := Lib.hid (sl_trim (sl_row (b := b') hrow HL.out (by omega) hO))
      refine (CT1.out _ _ _ hsl).mono ?_
      rintro e w1 ⟨rfl, hb⟩
      obtain ⟨g1, rfl⟩ := G.call_ex _ hb
      clear hb
      (try clear g)
      revert g1
      intro g
      clear hsl
      go_wp2_with (with_reducible refine G.any_mark _ ?_; (try generalize Array.size (World.heap (G.w _)) = bk); (try dsimp only [List.set_cons_zero, List.set_cons_succ]); (try clear g); intro g)
      go_ret
      have hlim : (limbs (val L)).length ≤ q + k + 1 := by rw [← HL.out]; exact limbs_len_le_of_ok hO
      have hpre := Row.pre hrow hlim
      rw [limbs_prefix hO] at hpre
      rw [← HV.out]
      exact ⟨b', cap, cs, rfl, hpre, g.below, hb, g.blk0⟩
end Go.Proofs.Ytodigegjngnknaa
