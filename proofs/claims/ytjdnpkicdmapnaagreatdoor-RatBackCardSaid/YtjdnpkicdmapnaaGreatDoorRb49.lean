/- Plain facts and contracts of functions of the program, out of walks. Their conditions stand ahead of each. -/
import Derived.Test.YtjdnpkicdmapnaaGreatDoorRb8
import Derived.Test.YtjdnpkicdmapnaaGreatDoorRb48
import Derived.Below
import Derived.BigQuiet
import Derived.Deep.Draws
import Derived.Deep.LoopGhost
import Derived.Deep.QuietTactic
import Derived.Deep.RegionHeld3
import Derived.Deep.RegionLaw
import Derived.Defers
import Derived.Laws.BytesString
import Derived.Laws.Cells
import Derived.Laws.Concat
import Derived.Laws.CopyOwn
import Derived.Laws.CopyRow
import Derived.Laws.IdiomStrings
import Derived.Laws.NewBlocks
import Derived.Laws.OwnMore
import Derived.Laws.Pointers
import Derived.Laws.Rows
import Derived.Laws.Runes
import Derived.Lib.BitFns
import Derived.Lib.Hide
import Derived.Lib.IndexLaws
import Derived.Lib.IndexMore
import Derived.Lib.ItoaNum
import Derived.Lib.TrailingZeros
import Derived.LoopIn
import Derived.LoopNIn
import Derived.Maps.AppendAt
import Derived.OrdersIn
import Derived.OwnWalk
import Derived.OwnWalkIn
import Derived.RangeFuncBound
import Derived.RangeFuncBox
import Derived.RangeFuncCalls
import Derived.RangeFuncLeaves
import Derived.RangeFuncNested
import Derived.RowKit3
import Derived.Shelf.Abstract
import Derived.Shelf.GgClosure.StringsIndexFunc
import Derived.Shelf.RegionOpen
import Derived.Shelf.Spec.TrailingZeros
import Derived.StillTactics
import Derived.StillTailTactics
import Derived.TacticsInMore
import Derived.Test.YtjdnpkicdmapnaaGreatDoorProg
import Derived.WalkKit
import Derived.WalkLawsBesides
import Derived.WalkMore
import Derived.WalkSpells
set_option linter.unusedVariables false
set_option linter.unusedSimpArgs false
set_option exponentiation.threshold 10000
namespace Go.Proofs.YtjdnpkicdmapnaaGreatDoor
open Go.RowKit GW NL
theorem dec_len {v : Nat} (hv : v < 2 ^ 8192) : (dec v).length ≤ 2467 := by
  unfold dec
  split
  · simp
  · rw [List.length_reverse, List.length_map]
    exact digs_len v 2467 (Nat.lt_of_lt_of_le hv (Nat.le_of_ble_eq_true rfl))
theorem dec_ne (v : Nat) : (dec v).length ≠ 0 := by
  unfold dec
  split
  · simp
  · next h0 => rw [List.length_reverse, List.length_map, digs_pos h0]; simp
theorem nd_dec {v x : Nat} (h : x ∈ dec v) : nd x = false := by
  have := dec_dig v x h
  unfold nd
  rw [decide_eq_false]
  omega
theorem dig_app : ∀ (l r : List Nat), (∀ x ∈ l, nd x = false) → dig (l ++ r) = l.length + dig r
  | [], r, _ => by simp
  | x :: l, r, h => by
    have h1 := h x (by simp)
    have h2 := dig_app l r (fun y hy => h y (by simp [hy]))
    rw [List.cons_append, dig, h1]
    simp only [Bool.false_eq_true, if_false]
    rw [h2, List.length_cons]
    omega
theorem dig_nil : dig [] = 0 := rfl
theorem dig_dec (v : Nat) : dig (dec v) = (dec v).length := by
  have := dig_app (dec v) [] (fun x hx => nd_dec hx)
  rw [List.append_nil, dig_nil, Nat.add_zero] at this
  exact this
theorem dig_sep (v : Nat) (r : List Nat) : dig (dec v ++ 47 :: r) = (dec v).length := by
  rw [dig_app (dec v) (47 :: r) (fun x hx => nd_dec hx)]
  have : dig (47 :: r) = 0 := by
    unfold dig
    rw [if_pos (by decide)]
  omega
theorem natP_dec {v : Nat} (hv : v < 2 ^ 8192) : natP (dec v) = (0, 0, v) := by
  unfold natP
  rw [if_neg (by have := dec_len hv; omega), if_neg (fun h => dec_head v h.1 h.2), dv_dec, if_pos hv]
theorem resP_one (neg : Bool) (fr : Nat) {n : Nat} (hn : n < 2 ^ 8192) : resP neg fr (dec n) = (0, 0, (neg && decide (n ≠ 0), n, 1)) := by
  unfold resP
  rw [dig_dec, if_neg (dec_ne n), if_neg (Nat.lt_irrefl _), natP_dec hn]
  rfl
theorem resP_two (neg : Bool) (fr : Nat) {n d : Nat} (hn : n < 2 ^ 8192) (hd : d < 2 ^ 8192) (h0 : d ≠ 0) : resP neg fr (dec n ++ 47 :: dec d) = (0, 0, (rneg (frac neg n d), rn (frac neg n d), (frac neg n d).den)) := by
  have e1 : (dec n ++ 47 :: dec d).getD (dec n).length 0 = 47 := by
    rw [List.getD_eq_getElem?_getD, List.getElem?_append_right (Nat.le_refl _), Nat.sub_self]
    rfl
  have e2 : (dec n ++ 47 :: dec d).drop ((dec n).length + 1) = dec d := by
    rw [← List.drop_drop, List.drop_left]
    rfl
  have e3 : (dec n ++ 47 :: dec d).take (dec n).length = dec n := List.take_left
  unfold resP
  rw [dig_sep, if_neg (dec_ne n), if_pos (by rw [List.length_append, List.length_cons]; omega), e1, e2, e3, dig_dec, natP_dec hn, natP_dec hd]
  rw [if_neg (by simp), if_neg (by have := dec_ne d; omega), if_neg (by simp), if_neg (by simp), if_neg h0]
/-- the bytes of a text of two numbers -/
def btext (s : Bool) (n d : Nat) : List Nat := (if s then [45] else []) ++ (dec n ++ 47 :: dec d)
def btext1 (s : Bool) (n : Nat) : List Nat := (if s then [45] else []) ++ dec n
theorem dec_no45 (n : Nat) (r : List Nat) : (dec n ++ r).getD 0 0 ≠ 45 := by
  rcases Nat.eq_zero_or_pos (dec n).length with h | h
  · exact absurd h (dec_ne n)
  · have h2 : (dec n)[0]? = some (dec n)[0] := List.getElem?_eq_getElem h
    rw [List.getD_eq_getElem?_getD, List.getElem?_append_left h, h2]
    have := dec_dig n _ (List.getElem_mem h)
    show (dec n)[0] ≠ 45
    omega
theorem parP_two (s : Bool) {n d : Nat} (hn : n < 2 ^ 8192) (hd : d < 2 ^ 8192) (h0 : d ≠ 0) : parP (btext s n d) = (0, 0, (rneg (frac s n d), rn (frac s n d), (frac s n d).den)) := by
  have l1 := dec_len hn
  have l2 := dec_len hd
  unfold parP btext
  cases s
  · rw [if_neg (by simp; omega)]
    simp only [Bool.false_eq_true, if_false, List.nil_append]
    rw [if_neg (dec_no45 n _), resP_two false 0 hn hd h0]
  · rw [if_neg (by simp; omega)]
    simp only [if_true, List.singleton_append]
    rw [if_pos (by rfl), List.drop_succ_cons, List.drop_zero, resP_two true 1 hn hd h0]
theorem parP_one (s : Bool) {n : Nat} (hn : n < 2 ^ 8192) : parP (btext1 s n) = (0, 0, (s && decide (n ≠ 0), n, 1)) := by
  have l1 := dec_len hn
  unfold parP btext1
  cases s
  · rw [if_neg (by simp; omega)]
    simp only [Bool.false_eq_true, if_false, List.nil_append]
    have := dec_no45 n []
    rw [List.append_nil] at this
    rw [if_neg this, resP_one false 0 hn]
  · rw [if_neg (by simp; omega)]
    simp only [if_true, List.singleton_append]
    rw [if_pos (by rfl), List.drop_succ_cons, List.drop_zero, resP_one true 1 hn]
theorem bstr_app (a b : List Nat) : bstr a ++ bstr b = bstr (a ++ b) := by
  rw [bstr_eq, bstr_eq, bstr_eq]
  apply ByteArray.ext
  simp
theorem bstr_45 : ByteArray.mk #[45] = bstr [45] := by rfl
theorem bstr_47 : ByteArray.mk #[47] = bstr [47] := by rfl
theorem btext_ok (s : Bool) (n d : Nat) : bl (bstr (btext s n d)) = btext s n d := bl_bstr fun x hx => by
  unfold btext at hx
  rcases List.mem_append.1 hx with h | h
  · cases s
    · simp at h
    · rw [if_pos rfl] at h; rw [List.mem_singleton.1 h]; decide
  · rcases List.mem_append.1 h with h | h
    · have := dec_dig n x h; omega
    · rcases List.mem_cons.1 h with h | h
      · subst h; decide
      · have := dec_dig d x h; omega
theorem btext1_ok (s : Bool) (n : Nat) : bl (bstr (btext1 s n)) = btext1 s n := bl_bstr fun x hx => by
  unfold btext1 at hx
  rcases List.mem_append.1 hx with h | h
  · cases s
    · simp at h
    · rw [if_pos rfl] at h; rw [List.mem_singleton.1 h]; decide
  · have := dec_dig n x h; omega
theorem qtext_eq (s : Bool) (n d : Nat) : qtext s n d = bstr (if d = 1 then btext1 s n else btext s n d) := by
  unfold qtext
  split
  · unfold btext1
    cases s
    · simp
    · rw [if_pos rfl, if_pos rfl, bstr_45, bstr_app]
  · unfold btext
    cases s
    · simp only [Bool.false_eq_true, if_false, List.nil_append]
      rw [bstr_47, bstr_app, bstr_app, List.append_assoc]
      rfl
    · simp only [if_true]
      rw [bstr_45, bstr_47, bstr_app, bstr_app, bstr_app, List.append_assoc, List.append_assoc]
      rfl
/-- PARSE READS WHAT TEXT WROTE -/
theorem parP_qtext {x : Rat} (hx : Bd 8192 x) : parP (bl (qtext (rneg x) (rn x) x.den)) = (0, 0, (rneg x, rn x, x.den)) := by
  rw [qtext_eq]
  by_cases hd : x.den = 1
  · rw [if_pos hd, btext1_ok, parP_one _ hx.1, hd]
    have : (rneg x && decide (rn x ≠ 0)) = rneg x := by
      cases h : rneg x
      · rfl
      · rw [decide_eq_true (rneg_ne h)]; rfl
    rw [this]
  · rw [if_neg hd, btext_ok, parP_two _ hx.1 hx.2 x.den_nz, frac_self]
/-- a text with a common factor -/
theorem parP_scaled {x : Rat} {k : Nat} (hk : k ≠ 0) (h1 : rn x * k < 2 ^ 8192) (h2 : x.den * k < 2 ^ 8192) : parP (bl ((if rneg x then ByteArray.mk #[45] ++ bstr (dec (rn x * k)) else bstr (dec (rn x * k))) ++ ByteArray.mk #[47] ++ bstr (dec (x.den * k)))) = (0, 0, (rneg x, rn x, x.den)) := by
  have hd : x.den * k ≠ 0 := Nat.mul_ne_zero x.den_nz hk
  have e : (if rneg x then ByteArray.mk #[45] ++ bstr (dec (rn x * k)) else bstr (dec (rn x * k))) ++ ByteArray.mk #[47] ++ bstr (dec (x.den * k)) = bstr (btext (rneg x) (rn x * k) (x.den * k)) := by
    unfold btext
    cases rneg x
    · simp only [Bool.false_eq_true, if_false, List.nil_append]
      rw [bstr_47, bstr_app, bstr_app, List.append_assoc]
      rfl
    · simp only [if_true]
      rw [bstr_45, bstr_47, bstr_app, bstr_app, bstr_app, List.append_assoc, List.append_assoc]
      rfl
  have e2 : frac (rneg x) (rn x * k) (x.den * k) = x := by
    have e3 : (if rneg x then -((rn x * k : Nat) : Int) else ((rn x * k : Nat) : Int)) = (if rneg x then -(rn x : Int) else (rn x : Int)) * (k : Int) := by
      cases rneg x
      · simp
      · simp [Int.neg_mul]
    unfold frac
    rw [e3, Rat.mkRat_mul_right hk]
    exact frac_self x
  rw [e, btext_ok, parP_two _ h1 h2 hd, e2]
end Go.Proofs.YtjdnpkicdmapnaaGreatDoor
