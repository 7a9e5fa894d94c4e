/- Plain facts and contracts of functions of the program, out of walks. Their conditions stand ahead of each. -/
import Derived.Test.YtjdnpkicdmapnaaGreatDoorRb4
import Derived.Test.YtjdnpkicdmapnaaGreatDoorRb7
import Derived.Test.YtjdnpkicdmapnaaGreatDoorRb9
import Derived.Below
import Derived.Deep.Draws
import Derived.Laws.NewBlocks
import Derived.Laws.OwnMore
import Derived.Laws.Rows
import Derived.Lib.BitFns
import Derived.Lib.ItoaNum
import Derived.Lib.TrailingZeros
import Derived.WalkKit
set_option linter.unusedVariables false
set_option linter.unusedSimpArgs false
namespace Go.Proofs.YtjdnpkicdmapnaaGreatDoor.GW
open Go
open Go.RowKit NL
/-- from o on, the cells read as the limbs l -/
structure Seg (cs : List Value) (o : Nat) (l : List Nat) : Prop where
  len : o + l.length ≤ cs.length
  get : ∀ j, j < l.length → cs[o + j]? = some (.int .u32 ((l.getD j 0 : Nat) : Int))
theorem Seg.set {cs : List Value} {o : Nat} {l : List Nat} (h : Seg cs o l) {j : Nat} (hj : j < l.length) (x : Nat) : Seg (cs.set (o + j) (.int .u32 (x : Int))) o (l.set j x) := by
  refine ⟨by rw [List.length_set, List.length_set]; exact h.len, fun i hi => ?_⟩
  rw [List.length_set] at hi
  have hl := h.len
  rw [List.getElem?_set, List.getD_eq_getElem?_getD, List.getElem?_set]
  by_cases e : j = i
  · subst e
    rw [if_pos rfl, if_pos (by omega), if_pos rfl, if_pos hj]; rfl
  · rw [if_neg (by omega), if_neg e, ← List.getD_eq_getElem?_getD]
    exact h.get i hi
theorem Seg.drop {cs : List Value} {o : Nat} {l : List Nat} (h : Seg cs o l) (q : Nat) (hq : q ≤ l.length) : Seg cs (o + q) (l.drop q) := by
  have hl := h.len
  refine ⟨by rw [List.length_drop]; omega, fun j hj => ?_⟩
  rw [List.length_drop] at hj
  rw [Nat.add_assoc, h.get (q + j) (by omega), List.getD_eq_getElem?_getD, List.getD_eq_getElem?_getD, List.getElem?_drop]
theorem Seg.take {cs : List Value} {o : Nat} {l : List Nat} (h : Seg cs o l) (k : Nat) : Seg cs o (l.take k) := by
  have hl := h.len
  refine ⟨by rw [List.length_take]; omega, fun j hj => ?_⟩
  rw [List.length_take] at hj
  rw [getD_take (by omega)]
  exact h.get j (by omega)
theorem Seg.sl {cs : List Value} {o c b : Nat} {l : List Nat} {T : TypeId} {fr : Nat × Nat} (h : Seg cs o l) (hc : l.length ≤ c) (hc2 : c ≤ 9223372036854775807) (hl : l.length ≤ 140737488355328) (hk : Ok l) : (blkF b (.cells cs.toArray T fr)).Sl (some ⟨b, o, none⟩) c l := by
  refine ⟨hc, hc2, hl, ?_, hk⟩
  intro _
  refine ⟨b, o, rfl, cs.toArray, T, fr, by simp [blkF], fun j hj => ?_⟩
  rw [List.getElem?_toArray]
  exact h.get j hj
theorem Seg.trim {cs : List Value} {o : Nat} {l : List Nat} (h : Seg cs o l) (hk : Ok l) : Seg cs o (limbs (val l)) := by
  rw [← limbs_prefix hk]; exact h.take _
end Go.Proofs.YtjdnpkicdmapnaaGreatDoor.GW
namespace Go.Proofs.YtjdnpkicdmapnaaGreatDoor.NL
open Go
theorem od_split {l : List Nat} (ho : Ok l) : od (val l) = val (l.drop (tz (val l) / 32)) / 2 ^ (tz (val l) % 32) := by
  unfold od
  rw [div_pow_split, val_div l ho]
theorem tz_len {l : List Nat} (ho : Ok l) (h0 : val l ≠ 0) : tz (val l) / 32 < l.length := by
  have h1 := val_lt ho
  rw [pow32] at h1
  have h2 := (od_spec (val l) h0).1
  have h3 : 2 ^ tz (val l) ≤ val l := by
    conv => rhs; rw [h2]
    exact Nat.le_mul_of_pos_right _ (Nat.pos_of_ne_zero (od_pos h0))
  have h4 : tz (val l) < 32 * l.length := (Nat.pow_lt_pow_iff_right (by decide)).1 (Nat.lt_of_le_of_lt h3 h1)
  omega
theorem pre_set {pre l : List Nat} {k x : Nat} (hp : pre.length = k) (hk : k < l.length) : (pre ++ l.drop k).set k x = (pre ++ [x]) ++ l.drop (k + 1) := by
  subst hp
  rw [List.set_append_right _ _ (Nat.le_refl _), Nat.sub_self, List.drop_eq_getElem_cons hk, List.set_cons_zero, List.append_assoc]
  rfl
theorem pre_get {pre l : List Nat} {k i : Nat} (hp : pre.length = k) (hi : k ≤ i) : (pre ++ l.drop k).getD i 0 = l.getD i 0 := by
  subst hp
  rw [List.getD_eq_getElem?_getD, List.getElem?_append_right hi, List.getElem?_drop, ← List.getD_eq_getElem?_getD]
  congr 1
  omega
end Go.Proofs.YtjdnpkicdmapnaaGreatDoor.NL
namespace Go.Proofs.YtjdnpkicdmapnaaGreatDoor.NL
open Go
theorem odd_cop2 {y : Nat} (h : y % 2 = 1) (t : Nat) : Nat.Coprime (2 ^ t) y := by
  have : Nat.Coprime 2 y := by
    rw [Nat.coprime_iff_gcd_eq_one, Nat.gcd_rec, h]
    decide
  exact Nat.Coprime.pow_left t this
theorem gcd_od_left {x y : Nat} (hx : x ≠ 0) (hy : y % 2 = 1) : Nat.gcd (od x) y = Nat.gcd x y := by
  conv => rhs; rw [(od_spec x hx).1]
  exact (Nat.Coprime.gcd_mul_left_cancel (od x) (odd_cop2 hy _)).symm
theorem gcd_sub_odd {x y : Nat} (h : y < x) (hy : y % 2 = 1) : Nat.gcd (od (x - y)) y = Nat.gcd x y := by
  rw [gcd_od_left (by omega) hy]
  exact Nat.gcd_sub_self_left (Nat.le_of_lt h)
/-- the twos and the odd part of a greatest common divisor -/
theorem gcd_parts {a b : Nat} (ha : a ≠ 0) (hb : b ≠ 0) : Nat.gcd a b = Nat.gcd (od a) (od b) * 2 ^ min (tz a) (tz b) := by
  obtain ⟨h1, o1⟩ := od_spec a ha
  obtain ⟨h2, o2⟩ := od_spec b hb
  have key : ∀ s t x y : Nat, s ≤ t → x % 2 = 1 → y % 2 = 1 → Nat.gcd (2 ^ s * x) (2 ^ t * y) = Nat.gcd x y * 2 ^ s := by
    intro s t x y hst hx hy
    obtain ⟨d, rfl⟩ : ∃ d, t = s + d := ⟨t - s, by omega⟩
    rw [Nat.pow_add, Nat.mul_assoc, Nat.gcd_mul_left, Nat.mul_comm]
    congr 1
    exact Nat.Coprime.gcd_mul_left_cancel_right y (odd_cop2 hx d)
  rcases Nat.le_total (tz a) (tz b) with h | h
  · rw [Nat.min_eq_left h]
    conv => lhs; rw [h1, h2]
    exact key _ _ _ _ h o1 o2
  · rw [Nat.min_eq_right h]
    conv => lhs; rw [h1, h2]
    rw [Nat.gcd_comm, key _ _ _ _ h o2 o1, Nat.gcd_comm]
/-- limbs of a number shifted by whole limbs and bits -/
theorem limbs_shift {x : Nat} (h : x ≠ 0) (q : Nat) : List.replicate q 0 ++ limbs x = limbs (x * 4294967296 ^ q) := by
  induction q with
  | zero => simp
  | succ q ih =>
    have h0 : x * 4294967296 ^ (q + 1) ≠ 0 := Nat.mul_ne_zero h (Nat.ne_of_gt (Nat.pow_pos (by decide)))
    rw [List.replicate_succ, List.cons_append, ih, limbs_pos h0]
    have e : x * 4294967296 ^ (q + 1) = 4294967296 * (x * 4294967296 ^ q) := by rw [Nat.pow_succ]; rw [← Nat.mul_assoc, Nat.mul_comm _ 4294967296]
    rw [e, Nat.mul_mod_right, Nat.mul_div_cancel_left _ (by decide)]
theorem shift_parts (x k : Nat) : x * 2 ^ (k % 32) * 4294967296 ^ (k / 32) = x * 2 ^ k := by
  rw [pow32, Nat.mul_assoc, ← Nat.pow_add]
  congr 2
  omega
end Go.Proofs.YtjdnpkicdmapnaaGreatDoor.NL
