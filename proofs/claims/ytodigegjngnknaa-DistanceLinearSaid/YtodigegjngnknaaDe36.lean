/- Plain facts and contracts of functions of the program, out of walks. Their conditions stand ahead of each. -/
import Derived.Test.YtodigegjngnknaaDe1
import Derived.Test.YtodigegjngnknaaDe29
import Derived.Test.YtodigegjngnknaaDe35
import Derived.Below
import Derived.BigQuiet
import Derived.Deep.DeepCutAuto
import Derived.Deep.Draws
import Derived.Deep.LoopGhost
import Derived.Deep.QuietTactic
import Derived.Deep.RegionHeld3
import Derived.Deep.WholeRow
import Derived.Defers
import Derived.Great.BuildSlice
import Derived.Laws.Bits128
import Derived.Laws.BitsLemmas
import Derived.Laws.BytesString
import Derived.Laws.Cells
import Derived.Laws.CopyOwn
import Derived.Laws.Externs
import Derived.Laws.IdiomStrings
import Derived.Laws.NewBlocks
import Derived.Laws.OwnMore
import Derived.Laws.Pointers
import Derived.Laws.Rows
import Derived.Lib.BitFns
import Derived.Lib.Hide
import Derived.Lib.ItoaNum
import Derived.LoopIn
import Derived.LoopNIn
import Derived.Maps.AppendAt
import Derived.OrdersIn
import Derived.OwnWalk
import Derived.OwnWalkIn
import Derived.RangeFuncBound
import Derived.RangeFuncBox
import Derived.RangeFuncCalls
import Derived.RangeFuncLeaves
import Derived.RangeFuncNested
import Derived.RowKit3
import Derived.Shelf.Abstract
import Derived.Shelf.RegionOpen
import Derived.StillTactics
import Derived.StillTailTactics
import Derived.TacticsInMore
import Derived.Test.YtodigegjngnknaaProg
import Derived.WalkKit
import Derived.WalkLawsBesides
import Derived.WalkMore
import Derived.WalkSpells
set_option linter.unusedVariables false
set_option linter.unusedSimpArgs false
set_option exponentiation.threshold 10000
namespace Go.Proofs.Ytodigegjngnknaa
open Go.RowKit GW NL Go.Proofs.Ytodigegjngnknaa.X
/-- the square of the distance of two points -/
def dd (X Y Z U V W : Int) : Int := (U - X) * (U - X) + (V - Y) * (V - Y) + (W - Z) * (W - Z)
theorem flip_sq (a b : Int) : (a - b) * (a - b) = (b - a) * (b - a) := by
  rw [show a - b = -(b - a) by omega, Int.neg_mul_neg]
theorem dd_flip (X Y Z U V W : Int) : dd U V W X Y Z = dd X Y Z U V W := by
  unfold dd
  rw [flip_sq X U, flip_sq Y V, flip_sq Z W]
theorem range_at (X Y Z U V W : Int) (hp : In3 100000000000 X Y Z) (hq : In3 100000000000 U V W) :
    ∃ r : Int, IsRoot r (dd X Y Z U V W) ∧ r ≤ 400000000000 ∧ (∀ w, Calls Try.prog 11 #[.agg #[.int .i64 X, .int .i64 Y, .int .i64 Z], .agg #[.int .i64 U, .int .i64 V, .int .i64 W]] w fun e w' => e = .returned (.tuple #[.int .i64 r, .int .i64 0]) ∧ Below w.heap.size w w') ∧
      (∀ w, Calls Try.prog 11 #[.agg #[.int .i64 U, .int .i64 V, .int .i64 W], .agg #[.int .i64 X, .int .i64 Y, .int .i64 Z]] w fun e w' => e = .returned (.tuple #[.int .i64 r, .int .i64 0]) ∧ Below w.heap.size w w') := by
  obtain ⟨da, db, dc⟩ := hp.diff hq
  obtain ⟨n0, n1⟩ := n2_bd da db dc
  obtain ⟨r, hr, hr4⟩ := root_exI n0 n1
  exact ⟨r, hr, hr4, fun w => drange_yes X Y Z U V W _ _ _ _ r rfl rfl rfl rfl hr hp hq w, fun w => drange_yes U V W X Y Z _ _ _ _ r rfl rfl rfl (dd_flip X Y Z U V W) hr hq hp w⟩
theorem dd_bd {X Y Z U V W : Int} (hp : In3 100000000000 X Y Z) (hq : In3 100000000000 U V W) : 0 ≤ dd X Y Z U V W ∧ dd X Y Z U V W ≤ 120000000000000000000000 := by
  obtain ⟨da, db, dc⟩ := hp.diff hq
  exact n2_bd da db dc
/-- the triangle inequality up to 1 -/
theorem tri_at {X Y Z U V W A B C r s t : Int} (hr : IsRoot r (dd X Y Z U V W)) (hs : IsRoot s (dd X Y Z A B C)) (ht : IsRoot t (dd A B C U V W)) : r ≤ s + t + 1 := by
  refine DI.tri (a := A - X) (b := B - Y) (c := C - Z) (x := U - A) (y := V - B) (z := W - C) hs.1 ht.1 hr.1 ?_ hs.2.2.2 ht.2.2.2
  have h := hr.2.2.1
  unfold dd at h
  rw [show A - X + (U - A) = U - X by omega, show B - Y + (V - B) = V - Y by omega, show C - Z + (W - C) = W - Z by omega]
  exact h
end Go.Proofs.Ytodigegjngnknaa
namespace Go.Proofs.Ytodigegjngnknaa
open Go.RowKit GW NL Go.Proofs.Ytodigegjngnknaa.X
theorem Top.zero {D : Nat} (hD : 0 < D) {t : Int} (h : Top D (0 * 0 * 4611686018427387904) t) : t = 0 := by
  rcases h.2.1 with h | h
  · exact h
  · exfalso
    unfold Yes at h
    have h1 : 0 < (2 * t - 1).natAbs := by omega
    have h2 := Nat.mul_pos (Nat.mul_pos h1 h1) hD
    omega
theorem Dir1.part {D : Nat} {a x : Int} (hD : 0 < D) (ha : a.natAbs * a.natAbs ≤ D) (h : Dir1 D a x) :
    ∃ t : Int, DI.IsPart t (a.natAbs : Int) D ∧ x * x = t * t ∧ x * a = t * (a.natAbs : Int) ∧ 0 ≤ t ∧ t ≤ 1073741824 ∧ ((x = t ∧ 0 ≤ a) ∨ (x = -t ∧ a < 0)) ∧ (a = 0 → t = 0) := by
  obtain ⟨t, rfl, h⟩ := h
  have hle : t ≤ 1073741824 := by
    rcases h.2.1 with k | k
    · omega
    · rcases Int.lt_or_le 1073741824 t with j | j
      · exact absurd k (not_yes hD ha t (by omega))
      · exact j
  have hz : a = 0 → t = 0 := by
    rintro rfl
    exact h.zero hD
  refine ⟨t, h.part, ?_, ?_, h.1, hle, ?_, hz⟩
  · split
    · rw [Int.neg_mul_neg]
    · rfl
  · split
    · rw [show (a.natAbs : Int) = -a by omega, Int.neg_mul, Int.mul_neg]
    · rw [show (a.natAbs : Int) = a by omega]
  · split
    · exact .inr ⟨rfl, by omega⟩
    · exact .inl ⟨rfl, by omega⟩
theorem Dir1.flip {D : Nat} {a x : Int} (hD : 0 < D) (h : Dir1 D a x) : Dir1 D (-a) (-x) := by
  obtain ⟨t, rfl, h⟩ := h
  refine ⟨t, ?_, by rwa [Int.natAbs_neg]⟩
  rcases Int.lt_trichotomy a 0 with k | k | k
  · rw [if_pos k, if_neg (by omega), Int.neg_neg]
  · subst k
    rw [h.zero hD]
    simp
  · rw [if_neg (by omega), if_pos (by omega)]
/-- what DistanceUnits asks of a direction -/
theorem units_plain {D : Nat} {a b c x y z r : Int} (hD : 0 < D) (hd : a.natAbs * a.natAbs + b.natAbs * b.natAbs + c.natAbs * c.natAbs = D) (hx : Dir1 D a x) (hy : Dir1 D b y) (hz : Dir1 D c z) (hr : IsRoot r (D : Int)) :
    (-1073741824 ≤ x ∧ x ≤ 1073741824) ∧ (-1073741824 ≤ y ∧ y ≤ 1073741824) ∧ (-1073741824 ≤ z ∧ z ≤ 1073741824) ∧
    (x * x + y * y + z * z - 1152921504606846976 < 4294967296 ∧ -4294967296 < x * x + y * y + z * z - 1152921504606846976) ∧
    (¬ (0 < x ∧ a ≤ 0) ∧ ¬ (x < 0 ∧ 0 ≤ a)) ∧ (¬ (0 < y ∧ b ≤ 0) ∧ ¬ (y < 0 ∧ 0 ≤ b)) ∧ (¬ (0 < z ∧ c ≤ 0) ∧ ¬ (z < 0 ∧ 0 ≤ c)) ∧
    (r - (r / 1073741824 + 3) ≤ DI.rnd (x * a + y * b + z * c) ∧ DI.rnd (x * a + y * b + z * c) ≤ r + (r / 1073741824 + 3)) := by
  obtain ⟨t1, p1, s1, m1, n1, l1, c1, z1⟩ := hx.part hD (by omega)
  obtain ⟨t2, p2, s2, m2, n2, l2, c2, z2⟩ := hy.part hD (by omega)
  obtain ⟨t3, p3, s3, m3, n3, l3, c3, z3⟩ := hz.part hD (by omega)
  have hD' : (0 : Int) < (D : Int) := by omega
  have hd' : (a.natAbs : Int) * (a.natAbs : Int) + (b.natAbs : Int) * (b.natAbs : Int) + (c.natAbs : Int) * (c.natAbs : Int) = (D : Int) := by
    rw [← hd]; simp
  have U := DI.unit hD' hd' p1 p2 p3
  have A := DI.along_range (by omega) (by omega) (by omega) hD' hd' p1 p2 p3 hr.1 hr.2.2.1 hr.2.2.2
  rw [s1, s2, s3, m1, m2, m3]
  refine ⟨by omega, by omega, by omega, U, by omega, by omega, by omega, ?_⟩
  have q1 := Int.mul_nonneg n1 (show (0 : Int) ≤ (a.natAbs : Int) by omega)
  have q2 := Int.mul_nonneg n2 (show (0 : Int) ≤ (b.natAbs : Int) by omega)
  have q3 := Int.mul_nonneg n3 (show (0 : Int) ≤ (c.natAbs : Int) by omega)
  unfold DI.rnd
  rw [if_neg (by omega)]
  exact ⟨A.2, A.1⟩
end Go.Proofs.Ytodigegjngnknaa
