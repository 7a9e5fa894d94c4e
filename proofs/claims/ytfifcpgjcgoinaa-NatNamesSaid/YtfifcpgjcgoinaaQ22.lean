/- Plain facts and contracts of functions of the program, out of walks. Their conditions stand ahead of each. -/
import Derived.Test.YtfifcpgjcgoinaaQ12
set_option linter.unusedVariables false
set_option linter.unusedSimpArgs false
namespace Go.Proofs.Ytfifcpgjcgoinaa.NL
open Go
structure AddI (l1 l2 : List Nat) (M k c : Nat) (pre : List Nat) : Prop where
  len : pre.length = k
  ok : Ok pre
  lt : c ≤ 1
  eq : val pre + 4294967296 ^ k * c = val (l1.take k) + val (l2.take k)
  top : k ≤ M ∨ (k = M + 1 ∧ 4294967296 ^ M ≤ val pre)
theorem AddI.start (l1 l2 : List Nat) (M : Nat) : AddI l1 l2 M 0 0 [] := ⟨rfl, Ok.nil, by omega, by simp [val], .inl (Nat.zero_le _)⟩
theorem AddI.next {l1 l2 : List Nat} {M k c : Nat} {pre : List Nat} (h : AddI l1 l2 M k c pre) (o1 : Ok l1) (o2 : Ok l2) (m1 : l1.length ≤ M) (m2 : l2.length ≤ M) (hM : M = l1.length ∨ M = l2.length) (hk : k ≤ M) (hc : k < M ∨ c ≠ 0) :
    AddI l1 l2 M (k + 1) ((c + l1.getD k 0 + l2.getD k 0) / 4294967296) (pre ++ [(c + l1.getD k 0 + l2.getD k 0) % 4294967296]) := by
  have hx := o1.getD k
  have hy := o2.getD k
  have hl := h.lt
  rw [show c + l1.getD k 0 + l2.getD k 0 = l1.getD k 0 + l2.getD k 0 + c by omega]
  refine ⟨by rw [List.length_append, h.len]; rfl, h.ok.append (Ok.cons (Nat.mod_lt _ (by decide)) Ok.nil), by omega, add_step h.len h.eq, ?_⟩
  rcases Nat.lt_or_ge k M with hlt | hge
  · exact .inl hlt
  · right
    obtain rfl : k = M := by omega
    refine ⟨rfl, ?_⟩
    have e1 : l1.getD k 0 = 0 := by rw [List.getD_eq_getElem?_getD, List.getElem?_eq_none (by omega)]; rfl
    have e2 : l2.getD k 0 = 0 := by rw [List.getD_eq_getElem?_getD, List.getElem?_eq_none (by omega)]; rfl
    have hc1 : c = 1 := by omega
    rw [e1, e2, hc1, val_snoc, h.len]
    simp
/-- at the last place there is no carry -/
theorem AddI.done {l1 l2 : List Nat} {M c : Nat} {pre : List Nat} (h : AddI l1 l2 M (M + 1) c pre) (o1 : Ok l1) (o2 : Ok l2) (m1 : l1.length ≤ M) (m2 : l2.length ≤ M) : c = 0 :=
  (add_end o1 o2 (by omega) (by omega) h.eq).2
theorem AddI.stop {a b M k : Nat} {pre : List Nat} (h : AddI (limbs a) (limbs b) M k 0 pre) (h1 : (limbs a).length ≤ k) (h2 : (limbs b).length ≤ k) (hM : M = (limbs a).length ∨ M = (limbs b).length) : pre = limbs (a + b) := by
  have e := h.eq
  rw [val_take_all h1, val_take_all h2, val_limbs, val_limbs, Nat.mul_zero, Nat.add_zero] at e
  have hp := limbs_prefix h.ok
  rw [e] at hp
  have hlen : k ≤ (limbs (a + b)).length := by
    rcases h.top with ht | ⟨rfl, ht⟩
    · have g1 := limbs_len_mono (m := a) (n := a + b) (by omega)
      have g2 := limbs_len_mono (m := b) (n := a + b) (by omega)
      rcases hM with rfl | rfl <;> omega
    · rw [e] at ht
      rcases Nat.lt_or_ge (limbs (a + b)).length (M + 1) with hh | hh
      · have := (limbs_len (a + b) M).1 (by omega)
        omega
      · exact hh
  rw [← hp, List.take_of_length_le (by rw [h.len]; exact hlen)]
end Go.Proofs.Ytfifcpgjcgoinaa.NL
