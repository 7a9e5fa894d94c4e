/- Plain facts on limbs. No conditions. -/
import Derived.Test.YtfifcpgjcgoinaaNp3
set_option linter.unusedVariables false
set_option linter.unusedSimpArgs false
namespace Go.Proofs.Ytfifcpgjcgoinaa.NL
open Go
/-- the number of the first k digits -/
def dv (l : List Nat) (k : Nat) : Nat := dval ((l.take k).map (· - 48))
theorem dv_zero (l : List Nat) : dv l 0 = 0 := rfl
theorem dv_succ {l : List Nat} {k : Nat} (h : k < l.length) : dv l (k + 1) = 10 * dv l k + (l.getD k 0 - 48) := by
  unfold dv
  rw [take_succ h, List.map_append, List.map_cons, List.map_nil, dval_snoc, List.getD_eq_getElem?_getD, List.getElem?_eq_getElem h]
  rfl
theorem dv_lt {l : List Nat} : ∀ {k : Nat}, k ≤ l.length → (∀ j, j < k → l.getD j 0 ≤ 57) → dv l k < 10 ^ k := by
  intro k
  induction k with
  | zero => intro _ _; rw [dv_zero]; decide
  | succ k ih =>
    intro h hd
    rw [dv_succ (by omega), Nat.pow_succ]
    have := ih (by omega) (fun j hj => hd j (by omega))
    have := hd k (by omega)
    omega
/-- ten times a number, limb by limb -/
structure Ten (xs : List Nat) (d j c : Nat) (pre : List Nat) : Prop where
  len : pre.length = j
  ok : Ok pre
  lt : c < 4294967296
  eq : val pre + 4294967296 ^ j * c = 10 * val (xs.take j) + d
theorem Ten.start {xs : List Nat} {d : Nat} (h : d < 4294967296) : Ten xs d 0 d [] := ⟨rfl, Ok.nil, h, by simp [val]⟩
theorem Ten.step {xs : List Nat} {d j c' : Nat} {pre : List Nat} (h : Ten xs d j c' pre) (ho : Ok xs) : Ten xs d (j + 1) ((xs.getD j 0 * 10 + 0 + c') / 4294967296) (pre ++ [(xs.getD j 0 * 10 + 0 + c') % 4294967296]) := by
  have hx := ho.getD j
  have hc := h.lt
  refine ⟨by rw [List.length_append, h.len]; rfl, h.ok.append (Ok.cons (Nat.mod_lt _ (by decide)) Ok.nil), by omega, ?_⟩
  rw [val_snoc, h.len, val_take_getD]
  have p := pow_split j (xs.getD j 0 * 10 + 0 + c')
  have e := h.eq
  rw [Nat.mul_add _ (xs.getD j 0 * 10 + 0), Nat.add_zero, Nat.mul_comm (xs.getD j 0) 10, Nat.mul_left_comm] at p
  rw [Nat.add_zero, Nat.mul_comm (xs.getD j 0) 10]
  generalize 4294967296 ^ j * ((10 * xs.getD j 0 + c') % 4294967296) = a1 at *
  generalize 4294967296 ^ (j + 1) * ((10 * xs.getD j 0 + c') / 4294967296) = a2 at *
  generalize 4294967296 ^ j * c' = a3 at *
  generalize 4294967296 ^ j * xs.getD j 0 = a4 at *
  omega
theorem Ten.more {N d c : Nat} {pre : List Nat} (h : Ten (limbs N) d (limbs N).length c pre) (hc : c ≠ 0) : pre ++ [c] = limbs (10 * N + d) := by
  have e := h.eq
  rw [List.take_length, val_limbs] at e
  have hv : val (pre ++ [c]) = 10 * N + d := by rw [val_snoc, h.len]; exact e
  rw [← hv, limbs_val (h.ok.append (Ok.cons h.lt Ok.nil)) ?_]
  intro k hk
  rw [List.length_append, List.length_singleton] at hk
  rw [List.getD_eq_getElem?_getD, List.getElem?_append_right (by omega), show k - pre.length = 0 by omega]
  exact hc
theorem Ten.same {N d : Nat} {pre : List Nat} (h : Ten (limbs N) d (limbs N).length 0 pre) : pre = limbs (10 * N + d) := by
  have e := h.eq
  rw [List.take_length, val_limbs, Nat.mul_zero, Nat.add_zero] at e
  have h1 := limbs_prefix h.ok
  rw [e] at h1
  have h2 := limbs_len_mono (m := N) (n := 10 * N + d) (by omega)
  rw [← h1, List.take_of_length_le (by rw [h.len]; exact h2)]
end Go.Proofs.Ytfifcpgjcgoinaa.NL
