/- Plain facts and contracts of functions of the program, out of walks. Their conditions stand ahead of each. -/
import Derived.Test.YtjdnpkicdmapnaaDoorRt2
set_option linter.unusedVariables false
set_option linter.unusedSimpArgs false
namespace Go.Proofs.YtjdnpkicdmapnaaDoor.NL
open Go
theorem sgz_mul (x y : Rat) : sgz (x * y) = sgz x * sgz y := by
  have e := frac_mul (rneg x) (rneg y) (rn x) x.den (rn y) y.den
  rw [frac_self, frac_self] at e
  have hz := Nat.mul_ne_zero x.den_nz y.den_nz
  have r1 : rneg (x * y) = ((rneg x != rneg y) && decide (rn x * rn y ≠ 0)) := by rw [e, frac_rneg _ hz]
  have r2 : rn (x * y) = 0 ↔ rn x * rn y = 0 := by
    rw [rn_zero_iff, ← rn_zero_iff (x * y), e, frac_rn _ hz]
    constructor
    · intro h
      by_cases h0 : rn x * rn y = 0
      · exact h0
      · exact absurd h (div_gcd_pos h0)
    · intro h; rw [h]; simp
  rcases sgz_cases x with ⟨_, e1, n1, m1⟩ | ⟨_, e1, n1, m1⟩ | ⟨_, e1, n1, m1⟩ <;> rcases sgz_cases y with ⟨_, e2, n2, m2⟩ | ⟨_, e2, n2, m2⟩ | ⟨_, e2, n2, m2⟩ <;> rw [e1, e2] <;> unfold sgz <;> rw [r1, n1, n2] <;> simp [m1, m2, r2, Nat.mul_eq_zero]
theorem sgz_swap (x y : Rat) : sgz (y - x) = -sgz (x - y) := by
  rw [← sgz_neg]; congr 1; grind
theorem sgz_shift (x y z : Rat) : sgz ((x + z) - (y + z)) = sgz (x - y) := by congr 1; grind
theorem sgz_scale (x y z : Rat) : sgz (x * z - y * z) = sgz (x - y) * sgz z := by rw [← sgz_mul]; congr 1; grind
end Go.Proofs.YtjdnpkicdmapnaaDoor.NL
