/- Plain facts and contracts of functions of the program, out of walks. Their conditions stand ahead of each. -/
import Derived.Test.YtcaaecmbbbdopaaDs5
import Derived.Below
import Derived.Deep.Draws
import Derived.HandedShaped
import Derived.JoinedOf
import Derived.KernelRfl
import Derived.Laws.NewBlocks
import Derived.Laws.OwnMore
import Derived.Laws.Rows
import Derived.Maps.AppendAt
import Derived.OpenShut
import Derived.ProofKit
import Derived.SizedLaws
import Derived.Test.YtcaaecmbbbdopaaRows
import Derived.WalkKit
set_option linter.unusedVariables false
set_option linter.unusedSimpArgs false
set_option maxRecDepth 100000
namespace Go.Proofs.Ytcaaecmbbbdopaa
open Go Go.ChangeShapes Go.WideShapes Go.ChangeAt Go.RowKit GW NL
theorem and_mk {a b : Bool} (ha : a = true) (hb : b = true) : (a && b) = true := by rw [ha, hb]; rfl
theorem closed1 : laidOutB Try.prog = true := by kernel_rfl
theorem closed2 : mapsRowed Try.prog = true := by kernel_rfl
theorem closed3 : (Try.prog.stops == []) = true := by kernel_rfl
theorem closed4 : (Try.prog.stopKnobs == []) = true := by kernel_rfl
theorem closed5 : Try.prog.stopsHeard = true := by kernel_rfl
theorem closed6 : Try.prog.mayEnter = true := by kernel_rfl
theorem cellsU32 : Try.prog.cellsOf 3 = 1 := by kernel_rfl
theorem bytesU32 : Try.prog.bytesOf 3 = 8 := by kernel_rfl
theorem cell_block {w : World} {b o : Nat} {v : Value} (h : w.cell? ⟨b, o, none⟩ = some v) : ∃ cs T fr, w.heap[b]? = some (.cells cs T fr) ∧ cs[o]? = some v := by
  unfold World.cell? at h
  cases hb : w.heap[b]? with
  | none => simp [hb] at h
  | some ob =>
    cases ob with
    | cells cs T fr => simp [hb] at h; exact ⟨cs, T, fr, rfl, h⟩
    | _ => simp [hb] at h
/-- A slice of uint32 among the arguments. -/
theorem open_i64s {H : Type} {enc : TypeId × Value → H} {W : World} {base : Nat} {T : TypeId} {v : Value} {d : DataW H} {p : List MemPlace} (hT : Try.prog.underlying T = some (.slice 3)) (hval : Value.okWide Try.prog W .any base T v)
    (h : DataW.Trod enc Try.prog W 0 (fun _ => true) true T v d p) :
    ∃ A c l, v = .slice A l.length c ∧ ((d = .nil ∧ l.length = 0) ∨ ∃ xs ys, d = .slice xs ys ∧ xs.length = l.length) ∧ (l.length ≤ 140737488355328 → SiW W A c l) := by
  obtain ⟨a0, len, cap, rfl⟩ := okWide_slice hT hval
  obtain ⟨fuel, hf⟩ := h
  rcases open_ints hT Try.underlying3 cellsU32 hf with ⟨hcs, hx⟩ | ⟨a, len', cap', zs, hcs, _, hl, hm, hz, hx, hcell, hwz⟩
  · simp [Value.cells] at hcs
    obtain ⟨rfl, rfl, rfl⟩ := hcs
    simp only [Prod.mk.injEq] at hx
    exact ⟨none, 0, [], rfl, .inl ⟨hx.1, rfl⟩, fun _ => ⟨Nat.le_refl _, by decide, by simp, fun h => absurd h (by simp), fun j => by simp⟩⟩
  · simp [Value.cells] at hcs
    obtain ⟨rfl, rfl, rfl⟩ := hcs
    simp only [Prod.mk.injEq] at hx
    simp only [if_true] at hz
    have hll : (zs.take len).length = len := by simp; omega
    have hgd : ∀ j, j < len → (zs.take len).getD j 0 = zs.getD j 0 := fun j hj => by
      rw [List.getD_eq_getElem?_getD, List.getElem?_take_of_lt hj, ← List.getD_eq_getElem?_getD]
    refine ⟨some a, cap, zs.take len, by rw [hll], .inr ⟨_, _, hx.1, by simp [lits]⟩, fun h9 => ⟨by omega, by unfold maxLen at hm; omega, h9, ?_, ?_⟩⟩
    · intro hpos
      obtain ⟨b, o, rfl, hc⟩ := ints_at hcell (by omega)
      obtain ⟨cs, T', fr, hb, _⟩ := cell_block (hc 0 (by omega))
      refine ⟨b, o, rfl, cs, T', fr, hb, fun j hj => ?_⟩
      have hj' : j < zs.length := by omega
      have e := hc j hj'
      simp only [World.cell?, hb] at e
      have e2 : cs[o + j]? = some (.int .i64 (zs.getD j 0)) := by simpa using e
      rw [e2, hgd j (by omega)]
    · intro j
      by_cases hj : j < len
      · rw [hgd j hj]
        have hj' : j < zs.length := by omega
        have hb2 := bounds_i64 (hwz (zs.getD j 0) (by rw [List.getD_eq_getElem?_getD, List.getElem?_eq_getElem hj']; exact List.getElem_mem hj'))
        exact ⟨hb2.1, Int.lt_add_one_of_le hb2.2⟩
      · rw [List.getD_eq_getElem?_getD, List.getElem?_eq_none (by omega)]
        exact ⟨by decide, by decide⟩
/-- How long it is at most. -/
theorem reach_i64s {H : Type} {ts : List TypeId} {ds : List (DataW H)} (hs : (DataW.weightsEach Try.prog ts ds).all (· ≤ reachBytes) = true) {j : Nat} {T : TypeId} {d : DataW H} {n : Nat} (ht : ts[j]? = some T) (hd : ds[j]? = some d) (hT : Try.prog.underlying T = some (.slice 3))
    (h : (d = .nil ∧ n = 0) ∨ ∃ xs ys, d = .slice xs ys ∧ xs.length = n) : n ≤ 17592186044416 := by
  rcases h with ⟨_, rfl⟩ | ⟨xs, ys, rfl, rfl⟩
  · omega
  · have := sized_slice hs ht hd hT
    rw [bytesU32] at this
    simp only [reachBytes] at this
    omega
end Go.Proofs.Ytcaaecmbbbdopaa
