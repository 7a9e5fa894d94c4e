/- Plain facts and contracts of functions of the program, out of walks. Their conditions stand ahead of each. -/
import Derived.Test.YtodigegjngnknaaDe3
import Derived.Test.YtodigegjngnknaaDe20
import Derived.Test.YtodigegjngnknaaDe21
import Derived.Below
import Derived.BigQuiet
import Derived.Deep.Draws
import Derived.Deep.QuietTactic
import Derived.Deep.RegionHeld3
import Derived.Defers
import Derived.Laws.BytesString
import Derived.Laws.NewBlocks
import Derived.Laws.OwnMore
import Derived.Laws.Pointers
import Derived.Laws.Rows
import Derived.Lib.BitFns
import Derived.Lib.Hide
import Derived.Lib.ItoaNum
import Derived.LoopIn
import Derived.LoopNIn
import Derived.Maps.AppendAt
import Derived.OrdersIn
import Derived.OwnWalk
import Derived.OwnWalkIn
import Derived.RangeFuncBound
import Derived.RangeFuncBox
import Derived.RangeFuncCalls
import Derived.RangeFuncLeaves
import Derived.RangeFuncNested
import Derived.RowKit3
import Derived.Shelf.Abstract
import Derived.Shelf.RegionOpen
import Derived.StillTactics
import Derived.StillTailTactics
import Derived.TacticsInMore
import Derived.Test.YtodigegjngnknaaProg
import Derived.WalkKit
import Derived.WalkLawsBesides
import Derived.WalkSpells
set_option linter.unusedVariables false
set_option linter.unusedSimpArgs false
namespace Go.Proofs.Ytodigegjngnknaa
open Go.RowKit GW NL
/-- bytes as cells -/
def u8s (l : List Nat) : List Value := l.map fun x : Nat => .int .u8 (x : Int)
theorem u8s_len (l : List Nat) : (u8s l).length = l.length := by simp [u8s]
theorem u8s_getD {l : List Nat} {j : Nat} (h : j < l.length) : (u8s l)[j]? = some (.int .u8 ((l.getD j 0 : Nat) : Int)) := by
  simp [u8s, List.getD_eq_getElem?_getD, List.getElem?_eq_getElem h]
theorem u8s_set (l : List Nat) (j : Nat) (x : Nat) : (u8s l).set j (.int .u8 (x : Int)) = u8s (l.set j x) := by
  unfold u8s; rw [List.map_set]
theorem u8s_append (l m : List Nat) : u8s (l ++ m) = u8s l ++ u8s m := by simp [u8s]
theorem u8s_one (l : List Nat) : ∀ u ∈ u8s l, u.oneCell' = true := by
  intro u hu
  obtain ⟨x, _, rfl⟩ := List.mem_map.1 hu
  rfl
/-- reversed up to the place i from both ends -/
def RevTo (l m : List Nat) (i : Nat) : Prop := m.length = l.length ∧ ∀ k, k < l.length → m.getD k 0 = if k < i ∨ l.length - i ≤ k then l.getD (l.length - 1 - k) 0 else l.getD k 0
theorem revTo_start (l : List Nat) : RevTo l l 0 := ⟨rfl, fun k hk => by rw [if_neg (by omega)]⟩
theorem revTo_end {l m : List Nat} {i : Nat} (h : RevTo l m i) (hi : l.length ≤ 2 * i + 1) : m = l.reverse := by
  apply List.ext_getElem
  · rw [h.1, List.length_reverse]
  · intro k h1 h2
    have hk := h.2 k (by rw [← h.1]; exact h1)
    rw [List.getD_eq_getElem?_getD, List.getElem?_eq_getElem h1] at hk
    rw [List.getElem_reverse]
    have h3 : k < l.length := by rw [← h.1]; exact h1
    have e1 : l.getD (l.length - 1 - k) 0 = l[l.length - 1 - k]'(by omega) := by rw [List.getD_eq_getElem?_getD, List.getElem?_eq_getElem (by omega)]; rfl
    by_cases hc : k < i ∨ l.length - i ≤ k
    · rw [if_pos hc, e1] at hk; exact hk
    · rw [if_neg hc, List.getD_eq_getElem?_getD, List.getElem?_eq_getElem h3] at hk
      have : l.length - 1 - k = k := by omega
      simp only [this]
      exact hk
theorem revTo_next {l m : List Nat} {i : Nat} (h : RevTo l m i) (hi : 2 * i + 1 < l.length) : RevTo l ((m.set i (m.getD (l.length - 1 - i) 0)).set (l.length - 1 - i) (m.getD i 0)) (i + 1) := by
  refine ⟨by simp [h.1], fun k hk => ?_⟩
  have a1 := h.2 i (by omega)
  have a2 := h.2 (l.length - 1 - i) (by omega)
  rw [if_neg (by omega)] at a1 a2
  rw [a1, a2]
  rw [List.getD_eq_getElem?_getD]
  by_cases e1 : k = l.length - 1 - i
  · rw [e1, List.getElem?_set_self (by simp [h.1]; omega), if_pos (by omega)]
    have : l.length - 1 - (l.length - 1 - i) = i := by omega
    rw [this]; rfl
  · rw [List.getElem?_set_ne (by omega)]
    by_cases e2 : k = i
    · rw [e2, List.getElem?_set_self (by rw [h.1]; omega), if_pos (by omega)]; rfl
    · rw [List.getElem?_set_ne (by omega), ← List.getD_eq_getElem?_getD, h.2 k hk]
      by_cases hc : k < i ∨ l.length - i ≤ k
      · rw [if_pos hc, if_pos (by omega)]
      · rw [if_neg hc, if_neg (by omega)]
end Go.Proofs.Ytodigegjngnknaa
