/- Plain facts and contracts of functions of the program, out of walks. Their conditions stand ahead of each. -/
import Derived.Test.YtcaaecmbbbdopaaDs3
import Derived.Test.YtcaaecmbbbdopaaDs6
import Derived.Below
import Derived.Deep.Draws
import Derived.Laws.CopyOwn
import Derived.Laws.NewBlocks
import Derived.Laws.OwnMore
import Derived.Laws.Rows
import Derived.Lib.BitFns
import Derived.Lib.ItoaNum
import Derived.Maps.AppendAt
import Derived.WalkKit
set_option linter.unusedVariables false
set_option linter.unusedSimpArgs false
namespace Go.Proofs.Ytcaaecmbbbdopaa.GW
open Go
open Go.RowKit NL
theorem seg_len {out : List Nat} {o k : Nat} (hk : o + k ≤ out.length) : ((out.drop o).take k).length = k := by
  rw [List.length_take, List.length_drop]; omega
theorem seg_getD {out : List Nat} {o k j : Nat} (hj : j < k) : ((out.drop o).take k).getD j 0 = out.getD (o + j) 0 := by
  rw [getD_take hj, getD_drop]
theorem sl_seg {b : Nat} {T : TypeId} {out : List Nat} {fr : Nat × Nat} {o k c : Nat} (hk : o + k ≤ out.length) (hc : k ≤ c) (hc2 : c ≤ 140737488355328) (ho : Ok out) : (blkF b (.cells (u32s out).toArray T fr)).Sl (some ⟨b, o, none⟩) c ((out.drop o).take k) := by
  have hl := seg_len hk
  refine ⟨by omega, by omega, by omega, ?_, (ho.drop o).take k⟩
  intro _
  refine ⟨b, o, rfl, (u32s out).toArray, T, fr, by simp [blkF], fun j hj => ?_⟩
  rw [List.getElem?_toArray, seg_getD (by omega)]
  exact u32s_getD (by omega)
theorem splice_u32s (l : List Nat) (o : Nat) (s : List Nat) : splice (u32s l) o (u32s s) = u32s (l.take o ++ (s ++ l.drop (o + s.length))) := by
  simp [splice, u32s]
/-- What 'take' does to the limbs out: x: the multiple was greater. -/
def TkR (out d : List Nat) (o k t : Nat) (x : Bool) (out' : List Nat) : Prop :=
  (x = true ∧ val ((out.drop o).take k) < val d * t ∧ out' = out) ∨
  (x = false ∧ val d * t ≤ val ((out.drop o).take k) ∧ out'.length = out.length ∧ Ok out' ∧ (∀ j, (j < o ∨ o + k ≤ j) → out'.getD j 0 = out.getD j 0) ∧ val ((out'.drop o).take k) = val ((out.drop o).take k) - val d * t)
end Go.Proofs.Ytcaaecmbbbdopaa.GW
namespace Go.Proofs.Ytcaaecmbbbdopaa.GW
open Go
open Go.RowKit NL
theorem G.perm {w0 : World} {X : List Nat} {M M' : List Blk} {I : List Frag} (g : G w0 X M I) (h : M.Perm M') : ∃ g' : G w0 X M' I, g.w = g'.w :=
  ⟨⟨g.w, g.chg, fun m hm => g.own m (h.mem_iff.2 hm), fun m hm => g.may m (h.mem_iff.2 hm), (h.map _).nodup_iff.1 g.dist, g.sub, fun f hf k o hk => ⟨(g.keep f hf k o hk).1, fun hm => (g.keep f hf k o hk).2 ((h.map _).mem_iff.2 hm)⟩⟩, rfl⟩
theorem Row.get {T : TypeId} {n cap : Nat} {xs : List Nat} {cs : List Value} (h : Row T 1 n (u32s xs) cap cs) (hn : xs.length = n) {j : Nat} (hj : j < n) : cs[j]? = some (.int .u32 ((xs.getD j 0 : Nat) : Int)) := by
  have := u32s_getD (l := xs) (j := j) (by omega)
  rw [← h.take, List.getElem?_take_of_lt (by omega)] at this
  exact this
theorem Row.set {T : TypeId} {n cap : Nat} {xs : List Nat} {cs : List Value} (h : Row T 1 n (u32s xs) cap cs) {j x : Nat} (hj : j < n) : Row T 1 n (u32s (xs.set j x)) cap (cs.set j (.int .u32 (x : Int))) := by
  refine ⟨h.le, h.max, by rw [List.length_set]; exact h.len, ?_, ?_⟩
  · rw [List.take_set, h.take, u32s_set]
  · rw [u32s_len, List.length_set, ← u32s_len]; exact h.xl
theorem ten_set {pre xs : List Nat} {j x : Nat} (hp : pre.length = j) (hj : j < xs.length) : (pre ++ xs.drop j).set j x = (pre ++ [x]) ++ xs.drop (j + 1) := by
  subst hp
  rw [List.set_append_right _ _ (Nat.le_refl _), Nat.sub_self, List.drop_eq_getElem_cons hj, List.set_cons_zero, List.append_assoc]
  rfl
theorem ten_get {pre xs : List Nat} {j : Nat} (hp : pre.length = j) : (pre ++ xs.drop j).getD j 0 = xs.getD j 0 := by
  subst hp
  rw [List.getD_eq_getElem?_getD, List.getElem?_append_right (Nat.le_refl _), Nat.sub_self, List.getElem?_drop, Nat.add_zero, ← List.getD_eq_getElem?_getD]
end Go.Proofs.Ytcaaecmbbbdopaa.GW
