/- Every number other than 0 has a sector, and the search in a quarter finds it. No conditions. -/
import Derived.Test.YtgehbebjgmeccaaPc
set_option linter.unusedVariables false
set_option linter.unusedSimpArgs false
namespace Go.Proofs.Ytgehbebjgmeccaa.Ang
theorem first_neg (f : Nat → Int) (n : Nat) (hn : f n < 0) : ∃ k, k ≤ n ∧ f k < 0 ∧ ∀ j, j < k → 0 ≤ f j := by
  induction n with
  | zero => exact ⟨0, Nat.le_refl _, hn, fun j h => absurd h (Nat.not_lt_zero _)⟩
  | succ n ih =>
    by_cases h : f n < 0
    · obtain ⟨k, a, b, c⟩ := ih h; exact ⟨k, by omega, b, c⟩
    · by_cases g : ∃ k, k ≤ n ∧ f k < 0 ∧ ∀ j, j < k → 0 ≤ f j
      · obtain ⟨k, a, b, c⟩ := g; exact ⟨k, by omega, b, c⟩
      · refine ⟨n + 1, Nat.le_refl _, hn, ?_⟩
        intro j hj
        induction j using Nat.strongRecOn with
        | ind j ihj =>
          by_cases hf : 0 ≤ f j
          · exact hf
          · exact absurd ⟨j, by omega, by omega, fun i hi => ihj i hi (by omega)⟩ g
/-- The search in the first quarter finds the sector. -/
theorem sec0 (k x y : Int) (h0 : 0 ≤ k) (h1 : k ≤ 16) (hq : Quarter 0 x y) (hlo : ∀ j : Int, 0 ≤ j → j < k → 0 ≤ d j x y) (hhi : k < 16 → d k x y < 0) : IsSec k x y := by
  rw [isSec_d]
  refine ⟨h0, by omega, ?_, ?_⟩
  · by_cases g : k = 0
    · subst g
      show (0 : Int) ≤ 253 * y - (-12) * x
      unfold Quarter at hq; omega
    · exact hlo (k - 1) (by omega) (by omega)
  · by_cases g : k < 16
    · exact hhi g
    · obtain rfl : k = 16 := by omega
      show (-12 : Int) * y - 253 * x < 0
      unfold Quarter at hq; omega
theorem isSec_rotN (n : Nat) : ∀ (k x y : Int) (x' y' : Int), IsSec k x' y' → (n = 0 → x = x' ∧ y = y') → (n = 1 → x = -y' ∧ y = x') → (n = 2 → x = -x' ∧ y = -y') → (n = 3 → x = y' ∧ y = -x') → n < 4 → IsSec ((k + 16 * n) % 64) x y := by
  intro k x y x' y' h e0 e1 e2 e3 hn
  have m0 : IsSec (k % 64) x' y' := by rwa [show k % 64 = k from by have := h.1; have := h.2.1; omega]
  match n, hn with
  | 0, _ => obtain ⟨rfl, rfl⟩ := e0 rfl; simpa using m0
  | 1, _ => obtain ⟨rfl, rfl⟩ := e1 rfl; simpa using isSec_rot h
  | 2, _ =>
    obtain ⟨rfl, rfl⟩ := e2 rfl
    have := isSec_rot (isSec_rot h)
    rwa [show ((k + 16) % 64 + 16) % 64 = (k + 16 * ((2 : Nat) : Int)) % 64 from by omega] at this
  | 3, _ =>
    obtain ⟨rfl, rfl⟩ := e3 rfl
    have := isSec_rot (isSec_rot (isSec_rot h))
    rwa [show (((k + 16) % 64 + 16) % 64 + 16) % 64 = (k + 16 * ((3 : Nat) : Int)) % 64 from by omega, Int.neg_neg] at this
theorem ex0 (x y : Int) (hq : Quarter 0 x y) : ∃ k, IsSec k x y := by
  have h16 : d ((16 : Nat) : Int) x y < 0 := by
    show (-12 : Int) * y - 253 * x < 0
    unfold Quarter at hq; omega
  obtain ⟨k, a, b, c⟩ := first_neg (fun j : Nat => d (j : Int) x y) 16 h16
  refine ⟨k, sec0 k x y (by omega) (by omega) hq ?_ (fun _ => b)⟩
  intro j h0 h1
  have := c j.toNat (by omega)
  simpa [Int.toNat_of_nonneg h0] using this
theorem four (x y : Int) (h : x ≠ 0 ∨ y ≠ 0) (a : ¬ Quarter 0 x y) (b : ¬ Quarter 0 y (-x)) (c : ¬ Quarter 0 (-x) (-y)) (e : ¬ Quarter 0 (-y) x) : False := by
  have q : ∀ x y : Int, Quarter 0 x y ↔ (0 < x ∧ 0 ≤ y) := by intro x y; simp [Quarter]
  rw [q] at a b c e
  omega
theorem ex_sec (x y : Int) (h : x ≠ 0 ∨ y ≠ 0) : ∃ k, IsSec k x y := by
  by_cases a : Quarter 0 x y
  · exact ex0 x y a
  by_cases b : Quarter 0 y (-x)
  · obtain ⟨k, hk⟩ := ex0 _ _ b
    have r := isSec_rotN 1 k x y y (-x) hk (by omega) (by omega) (by omega) (by omega) (by omega)
    exact ⟨_, r⟩
  by_cases c : Quarter 0 (-x) (-y)
  · obtain ⟨k, hk⟩ := ex0 _ _ c
    have r := isSec_rotN 2 k x y (-x) (-y) hk (by omega) (by omega) (by omega) (by omega) (by omega)
    exact ⟨_, r⟩
  by_cases e : Quarter 0 (-y) x
  · obtain ⟨k, hk⟩ := ex0 _ _ e
    have r := isSec_rotN 3 k x y (-y) x hk (by omega) (by omega) (by omega) (by omega) (by omega)
    exact ⟨_, r⟩
  · exact (four x y h a b c e).elim
/-- The sector of a number; 0 of 0. -/
def secF (x y : Int) : Int :=
  match (List.range 64).find? (fun k : Nat => decide (0 ≤ d ((k : Int) - 1) x y ∧ d (k : Int) x y < 0)) with
  | some k => k
  | none => 0
theorem secF_eq {k x y : Int} (h : IsSec k x y) : secF x y = k := by
  have hd := isSec_d.1 h
  unfold secF
  cases hf : (List.range 64).find? (fun k : Nat => decide (0 ≤ d ((k : Int) - 1) x y ∧ d (k : Int) x y < 0)) with
  | none =>
    rw [List.find?_eq_none] at hf
    have := hf k.toNat (by simp; omega)
    simp [Int.toNat_of_nonneg hd.1] at this
    exact absurd hd.2.2.2 (by have := this hd.2.2.1; omega)
  | some j =>
    have h1 := List.find?_some hf
    have h2 := List.mem_of_find?_eq_some hf
    simp at h1 h2
    show (j : Int) = k
    have a0 : (0 : Int) ≤ (j : Int) := by omega
    have a1 : (j : Int) < 64 := by omega
    exact uniq (isSec_d.2 ⟨a0, a1, h1.1, h1.2⟩) h
theorem secF_is (x y : Int) (h : x ≠ 0 ∨ y ≠ 0) : IsSec (secF x y) x y := by
  obtain ⟨k, hk⟩ := ex_sec x y h
  rw [secF_eq hk]; exact hk
theorem secF_zero : secF 0 0 = 0 := by decide
/-- The two cross products and the fine angle. -/
def fa (x y : Int) : Int := d (secF x y - 1) x y
def fb (x y : Int) : Int := - d (secF x y) x y
def fineF (x y : Int) : Int := if x = 0 ∧ y = 0 then 0 else (64 * secF x y - 32 + 64 * fa x y / (fa x y + fb x y)) % 4096
end Go.Proofs.Ytgehbebjgmeccaa.Ang
