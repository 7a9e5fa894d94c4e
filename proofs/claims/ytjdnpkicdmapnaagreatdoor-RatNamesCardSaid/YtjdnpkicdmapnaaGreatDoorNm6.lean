/- Plain facts and contracts of functions of the program, out of walks. Their conditions stand ahead of each. -/
import Derived.Test.YtjdnpkicdmapnaaGreatDoorNm1
import Derived.Below
import Derived.Deep.Draws
import Derived.HandedShaped
import Derived.JoinedOf
import Derived.KernelRfl
import Derived.Laws.NewBlocks
import Derived.Laws.OwnMore
import Derived.Laws.Rows
import Derived.OpenShut
import Derived.ProofKit
import Derived.SizedLaws
import Derived.Test.YtjdnpkicdmapnaaGreatDoorRows
import Derived.WalkKit
set_option linter.unusedVariables false
set_option linter.unusedSimpArgs false
set_option maxRecDepth 100000
namespace Go.Proofs.YtjdnpkicdmapnaaGreatDoor
open Go Go.ChangeShapes Go.WideShapes Go.ChangeAt Go.RowKit GW NL
theorem and_mk {a b : Bool} (ha : a = true) (hb : b = true) : (a && b) = true := by rw [ha, hb]; rfl
theorem closed1 : laidOutB Tryz.prog = true := by kernel_rfl
theorem closed2 : mapsRowed Tryz.prog = true := by kernel_rfl
theorem closed3 : (Tryz.prog.stops == []) = true := by kernel_rfl
theorem closed4 : (Tryz.prog.stopKnobs == []) = true := by kernel_rfl
theorem closed5 : Tryz.prog.stopsHeard = true := by kernel_rfl
theorem closed6 : Tryz.prog.mayEnter = true := by kernel_rfl
theorem cellsU32 : Tryz.prog.cellsOf 29 = 1 := by kernel_rfl
theorem bytesU32 : Tryz.prog.bytesOf 29 = 4 := by kernel_rfl
theorem cell_block {w : World} {b o : Nat} {v : Value} (h : w.cell? ⟨b, o, none⟩ = some v) : ∃ cs T fr, w.heap[b]? = some (.cells cs T fr) ∧ cs[o]? = some v := by
  unfold World.cell? at h
  cases hb : w.heap[b]? with
  | none => simp [hb] at h
  | some ob =>
    cases ob with
    | cells cs T fr => simp [hb] at h; exact ⟨cs, T, fr, rfl, h⟩
    | _ => simp [hb] at h
/-- A slice of uint32 among the arguments. -/
theorem open_u32s {H : Type} {enc : TypeId × Value → H} {W : World} {base : Nat} {T : TypeId} {v : Value} {d : DataW H} {p : List MemPlace} (hT : Tryz.prog.underlying T = some (.slice 29)) (hval : Value.okWide Tryz.prog W .any base T v)
    (h : DataW.Trod enc Tryz.prog W 0 (fun _ => true) true T v d p) :
    ∃ A c l, v = .slice A l.length c ∧ ((d = .nil ∧ l.length = 0) ∨ ∃ xs ys, d = .slice xs ys ∧ xs.length = l.length) ∧ (l.length ≤ 140737488355328 → SlW W A c l) := by
  obtain ⟨a0, len, cap, rfl⟩ := okWide_slice hT hval
  obtain ⟨fuel, hf⟩ := h
  rcases open_ints hT Tryz.underlying29 cellsU32 hf with ⟨hcs, hx⟩ | ⟨a, len', cap', zs, hcs, _, hl, hm, hz, hx, hcell, hwz⟩
  · simp [Value.cells] at hcs
    obtain ⟨rfl, rfl, rfl⟩ := hcs
    simp only [Prod.mk.injEq] at hx
    exact ⟨none, 0, [], rfl, .inl ⟨hx.1, rfl⟩, fun _ => Frag.Sl.nil _ _⟩
  · simp [Value.cells] at hcs
    obtain ⟨rfl, rfl, rfl⟩ := hcs
    simp only [Prod.mk.injEq] at hx
    simp only [if_true] at hz
    have hll : ((zs.take len).map Int.toNat).length = len := by simp; omega
    refine ⟨some a, cap, (zs.take len).map Int.toNat, by rw [hll], .inr ⟨_, _, hx.1, by simp [lits]⟩, fun h9 => ⟨by omega, by unfold maxLen at hm; omega, h9, ?_, ?_⟩⟩
    · intro hpos
      obtain ⟨b, o, rfl, hc⟩ := ints_at hcell (by omega)
      obtain ⟨cs, T', fr, hb, _⟩ := cell_block (hc 0 (by omega))
      refine ⟨b, o, rfl, cs, T', fr, hb, fun j hj => ?_⟩
      have hj' : j < zs.length := by omega
      have e := hc j hj'
      simp only [World.cell?, hb] at e
      have e2 : cs[o + j]? = some (.int .u32 (zs.getD j 0)) := by simpa using e
      rw [e2]
      have hb2 := bounds_u32 (hwz (zs.getD j 0) (by rw [List.getD_eq_getElem?_getD, List.getElem?_eq_getElem hj']; exact List.getElem_mem hj'))
      have e3 : ((zs.take len).map Int.toNat).getD j 0 = (zs.getD j 0).toNat := by
        rw [List.getD_eq_getElem?_getD, List.getElem?_map, List.getElem?_take_of_lt (by omega), List.getElem?_eq_getElem hj', List.getD_eq_getElem?_getD, List.getElem?_eq_getElem hj']
        rfl
      rw [e3, Int.toNat_of_nonneg hb2.1]
    · intro x hx
      obtain ⟨z, hz2, rfl⟩ := List.mem_map.1 hx
      have := bounds_u32 (hwz z (List.mem_of_mem_take hz2))
      omega
/-- How long it is at most. -/
theorem reach_u32s {H : Type} {ts : List TypeId} {ds : List (DataW H)} (hs : (DataW.weightsEach Tryz.prog ts ds).all (· ≤ reachBytes) = true) {j : Nat} {T : TypeId} {d : DataW H} {n : Nat} (ht : ts[j]? = some T) (hd : ds[j]? = some d) (hT : Tryz.prog.underlying T = some (.slice 29))
    (h : (d = .nil ∧ n = 0) ∨ ∃ xs ys, d = .slice xs ys ∧ xs.length = n) : n ≤ 35184372088832 := by
  rcases h with ⟨_, rfl⟩ | ⟨xs, ys, rfl, rfl⟩
  · omega
  · have := sized_slice hs ht hd hT
    rw [bytesU32] at this
    simp only [reachBytes] at this
    omega
end Go.Proofs.YtjdnpkicdmapnaaGreatDoor
