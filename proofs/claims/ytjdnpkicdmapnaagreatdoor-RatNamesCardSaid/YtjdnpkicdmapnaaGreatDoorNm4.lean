/- Plain facts and contracts of functions of the program, out of walks. Their conditions stand ahead of each. -/
import Derived.Test.YtjdnpkicdmapnaaGreatDoorNm1
import Derived.Test.YtjdnpkicdmapnaaGreatDoorNm3
import Derived.Lib.BitFns
import Derived.Lib.IndexLaws
import Derived.Lib.IndexMore
import Derived.Lib.ItoaNum
import Derived.Shelf.GgClosure.StringsIndexFunc
set_option linter.unusedVariables false
set_option linter.unusedSimpArgs false
set_option exponentiation.threshold 10000
namespace Go.Proofs.YtjdnpkicdmapnaaGreatDoor.NL
open Go
/-- no digit -/
def nd (x : Nat) : Bool := decide (x < 48 ∨ 57 < x)
/-- how many digits a list begins with -/
def dig : List Nat → Nat
  | [] => 0
  | x :: l => if nd x = true then 0 else dig l + 1
theorem dig_le : ∀ l, dig l ≤ l.length
  | [] => Nat.le_refl _
  | x :: l => by
    have := dig_le l
    unfold dig
    split
    · omega
    · simp; omega
theorem dig_pre : ∀ l j, j < dig l → nd (l.getD j 0) = false
  | [], j, h => by simp [dig] at h
  | x :: l, j, h => by
    unfold dig at h
    split at h
    · omega
    · cases j with
      | zero => simpa using ‹¬ nd x = true›
      | succ j => simpa using dig_pre l j (by omega)
theorem dig_at : ∀ l, dig l < l.length → nd (l.getD (dig l) 0) = true
  | [], h => by simp [dig] at h
  | x :: l, h => by
    unfold dig at h ⊢
    split
    · simpa
    · rename_i hx
      rw [if_neg hx] at h
      have := dig_at l (by simpa using h)
      simpa using this
theorem dig_uniq {l : List Nat} {k : Nat} (hk : k ≤ l.length) (h1 : ∀ j, j < k → nd (l.getD j 0) = false) (h2 : k < l.length → nd (l.getD k 0) = true) : dig l = k := by
  rcases Nat.lt_trichotomy (dig l) k with h | h | h
  · have := dig_at l (by omega)
    rw [h1 _ h] at this
    cases this
  · exact h
  · have := dig_pre l k h
    rw [h2 (by have := dig_le l; omega)] at this
    cases this
/-- where a byte stands first, or the length -/
def fst (c : Nat) : List Nat → Nat
  | [] => 0
  | x :: l => if x = c then 0 else fst c l + 1
theorem fst_le (c : Nat) : ∀ l, fst c l ≤ l.length
  | [] => Nat.le_refl _
  | x :: l => by
    have := fst_le c l
    unfold fst
    split
    · omega
    · simp; omega
theorem fst_pre (c : Nat) : ∀ l j, j < fst c l → l.getD j 0 ≠ c
  | [], j, h => by simp [fst] at h
  | x :: l, j, h => by
    unfold fst at h
    split at h
    · omega
    · rename_i hx
      cases j with
      | zero => simpa using hx
      | succ j => simpa using fst_pre c l j (by omega)
theorem fst_at (c : Nat) : ∀ l, fst c l < l.length → l.getD (fst c l) 0 = c
  | [], h => by simp [fst] at h
  | x :: l, h => by
    unfold fst at h ⊢
    split
    · simpa
    · rename_i hx
      rw [if_neg hx] at h
      have := fst_at c l (by simpa using h)
      simpa using this
/-- what nat.Parse says of digits: the error, the place, the number -/
def natP (l : List Nat) : Int × Nat × Nat :=
  if 2467 < l.length then (4, 2467, 0) else if 1 < l.length ∧ l.getD 0 0 = 48 then (11, 0, 0) else if dv l l.length < 2 ^ 8192 then (0, 0, dv l l.length) else (5, 0, 0)
/-- behind the sign: the error, the place, the parts; fr: where the rest begins -/
def resP (neg : Bool) (fr : Nat) (r : List Nat) : Int × Nat × (Bool × Nat × Nat) :=
  if dig r = 0 then (11, fr, (false, 0, 0))
  else if dig r < r.length then
    if r.getD (dig r) 0 ≠ 47 then (11, fr + dig r, (false, 0, 0))
    else if dig (r.drop (dig r + 1)) = 0 ∨ dig (r.drop (dig r + 1)) < (r.drop (dig r + 1)).length then (11, fr + dig r + 1 + dig (r.drop (dig r + 1)), (false, 0, 0))
    else if (natP (r.take (dig r))).1 ≠ 0 then ((natP (r.take (dig r))).1, fr + (natP (r.take (dig r))).2.1, (false, 0, 0))
    else if (natP (r.drop (dig r + 1))).1 ≠ 0 then ((natP (r.drop (dig r + 1))).1, fr + dig r + 1 + (natP (r.drop (dig r + 1))).2.1, (false, 0, 0))
    else if (natP (r.drop (dig r + 1))).2.2 = 0 then (6, fr + dig r + 1, (false, 0, 0))
    else (0, 0, (rneg (frac neg (natP (r.take (dig r))).2.2 (natP (r.drop (dig r + 1))).2.2), rn (frac neg (natP (r.take (dig r))).2.2 (natP (r.drop (dig r + 1))).2.2), (frac neg (natP (r.take (dig r))).2.2 (natP (r.drop (dig r + 1))).2.2).den))
  else if (natP r).1 ≠ 0 then ((natP r).1, fr + (natP r).2.1, (false, 0, 0))
  else (0, 0, (neg && decide ((natP r).2.2 ≠ 0), (natP r).2.2, 1))
/-- what Parse says of bytes -/
def parP (b : List Nat) : Int × Nat × (Bool × Nat × Nat) :=
  if 5000 < b.length then (4, 5000, (false, 0, 0))
  else if b.getD 0 0 = 45 then resP true 1 (b.drop 1) else resP false 0 b
theorem nd_high {x : Nat} (h : 128 ≤ x) : nd x = true := by unfold nd; rw [decide_eq_true]; right; omega
theorem dec_low (s : ByteArray) (i : Nat) (h : (s.get! i).toNat < 128) : Utf8.decode s i = ((s.get! i).toNat, 1) := by
  unfold Utf8.decode
  simp only [Nat.add_zero]
  rw [if_pos h]
theorem dec_high (s : ByteArray) (i : Nat) (h : ¬ (s.get! i).toNat < 128) : nd (Utf8.decode s i).1 = true := by
  have hr : nd Utf8.runeError = true := by decide
  unfold Utf8.decode
  simp only [Nat.add_zero]
  rw [if_neg h]
  split
  · split
    · exact nd_high (by assumption)
    · exact hr
  · split
    · split
      · rename_i hh
        simp only [Bool.and_eq_true, decide_eq_true_eq] at hh
        exact nd_high (by omega)
      · exact hr
    · split
      · split
        · rename_i hh
          simp only [Bool.and_eq_true, decide_eq_true_eq] at hh
          exact nd_high (by omega)
        · exact hr
      · exact hr
theorem idx_from (s : ByteArray) (l : List Nat) (hl : l = s.data.toList.map UInt8.toNat) : ∀ (f pos : Nat), pos ≤ l.length → l.length - pos ≤ f → Lib.idxFuncFrom nd true s f pos = if dig (l.drop pos) < (l.drop pos).length then ((pos + dig (l.drop pos) : Nat) : Int) else -1 := by
  have hsz : s.size = l.length := by rw [hl, List.length_map, Array.length_toList]; rfl
  intro f
  induction f with
  | zero =>
    intro pos hp hf
    have : l.drop pos = [] := List.drop_eq_nil_of_le (by omega)
    rw [this]
    rfl
  | succ f ih =>
    intro pos hp hf
    unfold Lib.idxFuncFrom
    by_cases hlt : pos < s.size
    · rw [if_pos hlt]
      have hd : l.drop pos = (l.getD pos 0) :: l.drop (pos + 1) := by
        rw [List.getD_eq_getElem?_getD, List.getElem?_eq_getElem (by omega)]
        exact List.drop_eq_getElem_cons (by omega)
      have hb : (s.get! pos).toNat = l.getD pos 0 := by
        have h2 : pos < s.data.toList.length := by rw [Array.length_toList]; exact hlt
        rw [hl, List.getD_eq_getElem?_getD, List.getElem?_map, List.getElem?_eq_getElem h2]
        simp only [Option.map_some, Option.getD_some]
        congr 1
        show s.data[pos]! = _
        rw [getElem!_pos s.data pos (by simpa using h2)]
        simp
      rw [hd]
      by_cases h128 : (s.get! pos).toNat < 128
      · rw [dec_low s pos h128, hb]
        dsimp only
        by_cases hn : nd (l.getD pos 0) = true
        · rw [if_pos hn]
          have : dig (l.getD pos 0 :: l.drop (pos + 1)) = 0 := by unfold dig; rw [if_pos hn]
          rw [this, if_pos (by simp)]
          rfl
        · rw [if_neg hn, ih (pos + 1) (by omega) (by omega)]
          have : dig (l.getD pos 0 :: l.drop (pos + 1)) = dig (l.drop (pos + 1)) + 1 := by rw [dig, if_neg hn]
          rw [this]
          simp only [List.length_cons, Nat.add_lt_add_iff_right]
          split
          · congr 1; omega
          · rfl
      · rw [if_pos (dec_high s pos h128)]
        have hn : nd (l.getD pos 0) = true := nd_high (by omega)
        have : dig (l.getD pos 0 :: l.drop (pos + 1)) = 0 := by unfold dig; rw [if_pos hn]
        rw [this, if_pos (by simp)]
        rfl
    · rw [if_neg hlt]
      have : l.drop pos = [] := List.drop_eq_nil_of_le (by omega)
      rw [this]
      rfl
theorem idx_dig (s : ByteArray) : Lib.idxFunc nd true s = if dig (s.data.toList.map UInt8.toNat) < s.size then ((dig (s.data.toList.map UInt8.toNat) : Nat) : Int) else -1 := by
  unfold Lib.idxFunc
  have hsz : s.size = (s.data.toList.map UInt8.toNat).length := by rw [List.length_map, Array.length_toList]; rfl
  rw [idx_from s _ rfl s.size 0 (Nat.zero_le _) (by omega), List.drop_zero, ← hsz, Nat.zero_add]
/-- strings.Cut by one byte -/
theorem index_one (c : UInt8) : ∀ l : List UInt8, Lib.index l [c] = if fst c.toNat (l.map UInt8.toNat) < l.length then ((fst c.toNat (l.map UInt8.toNat) : Nat) : Int) else -1
  | [] => rfl
  | b :: l => by
    unfold Lib.index
    have hpre : List.isPrefixOf [c] (b :: l) = decide (b.toNat = c.toNat) := by
      simp only [List.isPrefixOf, Bool.and_true]
      by_cases h : c = b
      · subst h; simp
      · have : ¬ b.toNat = c.toNat := fun hh => h (UInt8.toNat_inj.1 hh).symm
        rw [decide_eq_false this]
        simpa using h
    rw [hpre, index_one c l]
    by_cases h : b.toNat = c.toNat
    · rw [if_pos (by simpa using h)]
      simp only [List.map_cons, fst]
      rw [if_pos h, if_pos (by simp)]
      rfl
    · rw [if_neg (by simpa using h)]
      simp only [List.map_cons, fst]
      rw [if_neg h]
      by_cases h2 : fst c.toNat (l.map UInt8.toNat) < l.length
      · rw [if_pos h2, if_neg (by simp <;> omega), if_pos (by simp <;> omega)]
        rfl
      · rw [if_neg h2, if_pos (by rfl), if_neg (by simp <;> omega)]
theorem cut_one (c : UInt8) (l : List UInt8) : Lib.cut l [c] = if fst c.toNat (l.map UInt8.toNat) < l.length then (l.take (fst c.toNat (l.map UInt8.toNat)), l.drop (fst c.toNat (l.map UInt8.toNat) + 1), true) else (l, [], false) := by
  unfold Lib.cut
  rw [index_one]
  by_cases h : fst c.toNat (l.map UInt8.toNat) < l.length
  · rw [if_pos h, if_pos (by omega), if_pos h]
    simp
  · rw [if_neg h, if_neg (by decide), if_neg h]
end Go.Proofs.YtjdnpkicdmapnaaGreatDoor.NL
