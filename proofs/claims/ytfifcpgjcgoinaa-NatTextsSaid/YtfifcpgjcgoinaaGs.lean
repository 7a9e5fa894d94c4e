/- Worlds of a walk, known by their type. No conditions. -/
import Derived.Test.YtfifcpgjcgoinaaGc
import Derived.Test.YtfifcpgjcgoinaaNp3
set_option linter.unusedVariables false
set_option linter.unusedSimpArgs false
namespace Go.Proofs.Ytfifcpgjcgoinaa.GW
open Go
open Go.RowKit NL
theorem seg_len {out : List Nat} {o k : Nat} (hk : o + k ≤ out.length) : ((out.drop o).take k).length = k := by
  rw [List.length_take, List.length_drop]; omega
theorem seg_getD {out : List Nat} {o k j : Nat} (hj : j < k) : ((out.drop o).take k).getD j 0 = out.getD (o + j) 0 := by
  rw [getD_take hj, getD_drop]
theorem sl_seg {b : Nat} {T : TypeId} {out : List Nat} {fr : Nat × Nat} {o k c : Nat} (hk : o + k ≤ out.length) (hc : k ≤ c) (hc2 : c ≤ 140737488355328) (ho : Ok out) : (blkF b (.cells (u32s out).toArray T fr)).Sl (some ⟨b, o, none⟩) c ((out.drop o).take k) := by
  have hl := seg_len hk
  refine ⟨by omega, by omega, by omega, ?_, (ho.drop o).take k⟩
  intro _
  refine ⟨b, o, rfl, (u32s out).toArray, T, fr, by simp [blkF], fun j hj => ?_⟩
  rw [List.getElem?_toArray, seg_getD (by omega)]
  exact u32s_getD (by omega)
theorem splice_u32s (l : List Nat) (o : Nat) (s : List Nat) : splice (u32s l) o (u32s s) = u32s (l.take o ++ (s ++ l.drop (o + s.length))) := by
  simp [splice, u32s]
/-- What 'take' does to the limbs out: x: the multiple was greater. -/
def TkR (out d : List Nat) (o k t : Nat) (x : Bool) (out' : List Nat) : Prop :=
  (x = true ∧ val ((out.drop o).take k) < val d * t ∧ out' = out) ∨
  (x = false ∧ val d * t ≤ val ((out.drop o).take k) ∧ out'.length = out.length ∧ Ok out' ∧ (∀ j, (j < o ∨ o + k ≤ j) → out'.getD j 0 = out.getD j 0) ∧ val ((out'.drop o).take k) = val ((out.drop o).take k) - val d * t)
end Go.Proofs.Ytfifcpgjcgoinaa.GW
