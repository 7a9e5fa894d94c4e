/- Plain facts and contracts of functions of the program, out of walks. Their conditions stand ahead of each. -/
import Derived.Test.YtjdnpkicdmapnaaGreatDoorNm1
import Derived.Test.YtjdnpkicdmapnaaGreatDoorNm17
import Derived.Test.YtjdnpkicdmapnaaGreatDoorNm18
import Derived.Below
import Derived.BigQuiet
import Derived.Deep.Draws
import Derived.Deep.QuietTactic
import Derived.Deep.RegionHeld3
import Derived.Defers
import Derived.Laws.BytesString
import Derived.Laws.NewBlocks
import Derived.Laws.OwnMore
import Derived.Laws.Pointers
import Derived.Laws.Rows
import Derived.Lib.BitFns
import Derived.Lib.Hide
import Derived.Lib.ItoaNum
import Derived.LoopIn
import Derived.LoopNIn
import Derived.Maps.AppendAt
import Derived.OrdersIn
import Derived.OwnWalk
import Derived.OwnWalkIn
import Derived.RangeFuncBound
import Derived.RangeFuncBox
import Derived.RangeFuncCalls
import Derived.RangeFuncLeaves
import Derived.RangeFuncNested
import Derived.RowKit3
import Derived.Shelf.Abstract
import Derived.Shelf.RegionOpen
import Derived.StillTactics
import Derived.StillTailTactics
import Derived.TacticsInMore
import Derived.Test.YtjdnpkicdmapnaaGreatDoorProg
import Derived.WalkKit
import Derived.WalkLawsBesides
import Derived.WalkSpells
set_option linter.unusedVariables false
set_option linter.unusedSimpArgs false
namespace Go.Proofs.YtjdnpkicdmapnaaGreatDoor
open Go.RowKit GW NL
/-- bytes as cells -/
def u8s (l : List Nat) : List Value := l.map fun x : Nat => .int .u8 (x : Int)
theorem u8s_len (l : List Nat) : (u8s l).length = l.length := by simp [u8s]
theorem u8s_getD {l : List Nat} {j : Nat} (h : j < l.length) : (u8s l)[j]? = some (.int .u8 ((l.getD j 0 : Nat) : Int)) := by
  simp [u8s, List.getD_eq_getElem?_getD, List.getElem?_eq_getElem h]
theorem u8s_set (l : List Nat) (j : Nat) (x : Nat) : (u8s l).set j (.int .u8 (x : Int)) = u8s (l.set j x) := by
  unfold u8s; rw [List.map_set]
theorem u8s_append (l m : List Nat) : u8s (l ++ m) = u8s l ++ u8s m := by simp [u8s]
theorem u8s_one (l : List Nat) : ∀ u ∈ u8s l, u.oneCell' = true := by
  intro u hu
  obtain ⟨x, _, rfl⟩ := List.mem_map.1 hu
  rfl
/-- reversed up to the place i from both ends -/
def RevTo (l m : List Nat) (i : Nat) : Prop := m.length = l.length ∧ ∀ k, k < l.length → m.getD k 0 = if k < i ∨ l.length - i ≤ k then l.getD (l.length - 1 - k) 0 else l.getD k 0
theorem revTo_start (l : List Nat) : RevTo l l 0 := ⟨rfl, fun k hk => by rw [if_neg (by omega)]⟩
theorem revTo_end {l m : List Nat} {i : Nat} (h : RevTo l m i) (hi : l.length ≤ 2 * i + 1) : m = l.reverse := by
  apply List.ext_getElem
  · rw [h.1, List.length_reverse]
  · intro k h1 h2
    have hk := h.2 k (by rw [← h.1]; exact h1)
    rw [List.getD_eq_getElem?_getD, List.getElem?_eq_getElem h1] at hk
    rw [List.getElem_reverse]
    have h3 : k < l.length := by rw [← h.1]; exact h1
    have e1 : l.getD (l.length - 1 - k) 0 = l[l.length - 1 - k]'(by omega) := by rw [List.getD_eq_getElem?_getD, List.getElem?_eq_getElem (by omega)]; rfl
    by_cases hc : k < i ∨ l.length - i ≤ k
    · rw [if_pos hc, e1] at hk; exact hk
    · rw [if_neg hc, List.getD_eq_getElem?_getD, List.getElem?_eq_getElem h3] at hk
      have : l.length - 1 - k = k := by omega
      simp only [this]
      exact hk
theorem revTo_next {l m : List Nat} {i : Nat} (h : RevTo l m i) (hi : 2 * i + 1 < l.length) : RevTo l ((m.set i (m.getD (l.length - 1 - i) 0)).set (l.length - 1 - i) (m.getD i 0)) (i + 1) := by
  refine ⟨by simp [h.1], fun k hk => ?_⟩
  have a1 := h.2 i (by omega)
  have a2 := h.2 (l.length - 1 - i) (by omega)
  rw [if_neg (by omega)] at a1 a2
  rw [a1, a2]
  rw [List.getD_eq_getElem?_getD]
  by_cases e1 : k = l.length - 1 - i
  · rw [e1, List.getElem?_set_self (by simp [h.1]; omega), if_pos (by omega)]
    have : l.length - 1 - (l.length - 1 - i) = i := by omega
    rw [this]; rfl
  · rw [List.getElem?_set_ne (by omega)]
    by_cases e2 : k = i
    · rw [e2, List.getElem?_set_self (by rw [h.1]; omega), if_pos (by omega)]; rfl
    · rw [List.getElem?_set_ne (by omega), ← List.getD_eq_getElem?_getD, h.2 k hk]
      by_cases hc : k < i ∨ l.length - i ≤ k
      · rw [if_pos hc, if_pos (by omega)]
      · rw [if_neg hc, if_neg (by omega)]
set_option maxHeartbeats 1000000 in
theorem reverse_any (b n cap : Nat) (T : TypeId) (l : List Nat) (tl : List Value) (w : World) (hn : l.length = n) (hn9 : n ≤ 1000000000) (hc : n ≤ cap) (hb : w.heap[b]? = some (.cells (u8s l ++ tl).toArray T (0, 0))) :
    Calls Tryz.prog 100 #[.slice (some ⟨b, 0, none⟩) n cap] w fun e w' => e = .returned (.tuple #[]) ∧ Chg [b] w w' ∧ w'.heap[b]? = some (.cells (u8s l.reverse ++ tl).toArray T (0, 0)) := by
  refine calls_m hb fun g => ?_
  have HN := Lib.hid hn
  go_enter Tryz.func100, Tryz.ntmps100
  go_wp2_with (with_reducible refine G.any_mark _ ?_; (try generalize Array.size (World.heap (G.w _)) = bk); (try dsimp only [List.set_cons_zero, List.set_cons_succ]); (try clear g); intro g)
  go_loopw [2, 3] (fun i j wr => ∃ (k : Nat) (m : List Nat), i = .int .i64 k ∧ j = .int .i64 ((n : Int) - 1 - k) ∧ k ≤ n ∧ RevTo l m k ∧ ∃ g : G w [b] [(b, T, u8s m ++ tl)] [heapBut w b], wr = g.w) (fun i _ _ => n - (intOf i).toNat)
  case atStart => exact ⟨0, l, rfl, by simp, Nat.zero_le _, revTo_start l, g, rfl⟩
  case round =>
    clear g
    obtain ⟨k, m, rfl, rfl, hk, hR, g, rfl⟩ := hrel
    by_cases hk2 : 2 * k + 1 < n
    · have nx := Lib.hid (revTo_next hR (by rw [HN.out]; exact hk2))
      have hm : m.length = n := by rw [hR.1]; exact HN.out
      obtain ⟨j, hj⟩ : ∃ j, n - 1 - k = j := ⟨_, rfl⟩
      rw [HN.out, hj] at nx
      have hji : (n : Int) - 1 - (k : Int) = (j : Int) := by omega
      have c1 : (u8s m ++ tl)[k]? = some (.int .u8 ((m.getD k 0 : Nat) : Int)) := by
        rw [List.getElem?_append_left (by rw [u8s_len]; omega)]; exact u8s_getD (by omega)
      have c2 : (u8s m ++ tl)[j]? = some (.int .u8 ((m.getD j 0 : Nat) : Int)) := by
        rw [List.getElem?_append_left (by rw [u8s_len]; omega)]; exact u8s_getD (by omega)
      have hs : Hid (((u8s m ++ tl).set k (.int .u8 ((m.getD j 0 : Nat) : Int))).set j (.int .u8 ((m.getD k 0 : Nat) : Int)) = u8s ((m.set k (m.getD j 0)).set j (m.getD k 0)) ++ tl) := Lib.hid (by
        rw [List.set_append_left _ _ (by rw [u8s_len]; omega), u8s_set, List.set_append_left _ _ (by rw [u8s_len, List.length_set]; omega), u8s_set])
      have hlt : (k : Int) < (j : Int) := by omega
      have hj9 : (j : Int) < (n : Int) := by omega
      have hk9 : (k : Int) < (n : Int) := by omega
      have hj8 : j ≤ 1000000000 := by omega
      have hj7 : k ≤ 1000000000 := by omega
      have hjk : j ≠ k := by omega
      have hkj : k ≠ j := by omega
      rw [hji]
      generalize ((m.getD k 0 : Nat) : Int) = x1 at *
      generalize ((m.getD j 0 : Nat) : Int) = x2 at *
      go_wp2_with (with_reducible refine G.any_mark _ ?_; (try generalize Array.size (World.heap (G.w _)) = bk); (try dsimp only [List.set_cons_zero, List.set_cons_succ]); (try clear g); intro g)
      go_region
      all_goals
        ((try simp only [G.drew_eq, G.drewN_eq]); (refine G.any_mark _ ?_; (try generalize Array.size (World.heap (G.w _)) = bk); (try dsimp only [List.set_cons_zero, List.set_cons_succ]); (try clear g); intro g))
        go_wp2_with (with_reducible refine G.any_mark _ ?_; (try generalize Array.size (World.heap (G.w _)) = bk); (try dsimp only [List.set_cons_zero, List.set_cons_succ]); (try clear g); intro g)
        obtain ⟨g2, hg2⟩ := g.as (by rw [hs.out])
        exact ⟨⟨k + 1, _, by go_num, by simp only [Value.int.injEq, true_and]; omega, by omega, nx.out, g2, hg2⟩, by simp [intOf]; omega⟩
    · have e := revTo_end hR (by rw [HN.out]; omega)
      subst e
      have hge : ¬ ((k : Int) < (n : Int) - 1 - (k : Int)) := by omega
      go_wp2_with (with_reducible refine G.any_mark _ ?_; (try generalize Array.size (World.heap (G.w _)) = bk); (try dsimp only [List.set_cons_zero, List.set_cons_succ]); (try clear g); intro g)
      go_end0
      exact ⟨rfl, g.chg, g.blk0⟩
end Go.Proofs.YtjdnpkicdmapnaaGreatDoor
