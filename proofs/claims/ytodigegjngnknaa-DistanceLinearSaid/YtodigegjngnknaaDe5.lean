/- Plain facts and contracts of functions of the program, out of walks. Their conditions stand ahead of each. -/
import Derived.Laws.Bits128
import Derived.Laws.BitsLemmas
import Derived.WalkKit
set_option linter.unusedVariables false
set_option linter.unusedSimpArgs false
namespace Go.Proofs.Ytodigegjngnknaa.K
open Go Go.RowKit
theorem u64and32 (x : Int) (h0 : 0 ≤ x) (h1 : x < 18446744073709551616) : bits .and .u64 x 4294967295 = x % 4294967296 :=
  bits_mask .u64 64 (by decide) (fun n a b => by rw [IntKind.wrap_u64]; omega) 32 (by decide) x h0 h1
theorem mul_hi (x y : Int) (hx : 0 ≤ x ∧ x < 18446744073709551616) (hy : 0 ≤ y ∧ y < 18446744073709551616) :
    (let x0 := x % 4294967296; let x1 := x / 4294967296; let y0 := y % 4294967296; let y1 := y / 4294967296
     let t := (x1 * y0 % 18446744073709551616 + x0 * y0 % 18446744073709551616 / 4294967296) % 18446744073709551616
     ((x1 * y1 % 18446744073709551616 + t / 4294967296) % 18446744073709551616 + (t % 4294967296 + x0 * y1 % 18446744073709551616) % 18446744073709551616 / 4294967296) % 18446744073709551616 = x * y / 18446744073709551616) := by
  intro x0 x1 y0 y1 t
  have hb : ∀ u v : Int, 0 ≤ u → u ≤ 4294967295 → 0 ≤ v → v ≤ 4294967295 → 0 ≤ u * v ∧ u * v ≤ 18446744065119617025 := by
    intro u v a b c d
    have p1 := Int.mul_nonneg a c
    have p2 := Int.mul_nonneg (show 0 ≤ 4294967295 - u by omega) c
    have e : (4294967295 - u) * v = 4294967295 * v - u * v := by rw [Int.sub_mul]
    omega
  have b0 := hb x1 y1 (by omega) (by omega) (by omega) (by omega)
  have b1 := hb x1 y0 (by omega) (by omega) (by omega) (by omega)
  have b2 := hb x0 y1 (by omega) (by omega) (by omega) (by omega)
  have b3 := hb x0 y0 (by omega) (by omega) (by omega) (by omega)
  have ex : x = x1 * 4294967296 + x0 := by omega
  have ey : y = y1 * 4294967296 + y0 := by omega
  have exy : x * y = (x1 * y1) * 18446744073709551616 + (x1 * y0 + x0 * y1) * 4294967296 + x0 * y0 := by
    rw [ex, ey]; grind
  rw [exy]
  clear exy ex ey hb hx hy
  simp only [t]
  clear t
  generalize x1 * y1 = A at *
  generalize x1 * y0 = B at *
  generalize x0 * y1 = C at *
  generalize x0 * y0 = D at *
  omega
end Go.Proofs.Ytodigegjngnknaa.K
