/- Plain facts and contracts of functions of the program, out of walks. Their conditions stand ahead of each. -/
import Derived.Test.YtjdnpkicdmapnaaGreatDoorRb13
import Derived.Below
import Derived.Deep.Draws
import Derived.Laws.CopyOwn
import Derived.Laws.CopyRow
import Derived.Laws.NewBlocks
import Derived.Laws.OwnMore
import Derived.Laws.Rows
import Derived.Maps.AppendAt
import Derived.WalkKit
set_option linter.unusedVariables false
set_option linter.unusedSimpArgs false
namespace Go.Proofs.YtjdnpkicdmapnaaGreatDoor.GW
open Go
open Go.RowKit NL
theorem zeroCells_one (z : Value) (n : Nat) : (Builtin.zeroCells #[z] n).toList = List.replicate n z := by
  apply List.ext_getElem?
  intro j
  unfold Builtin.zeroCells
  simp only [List.size_toArray, List.length_cons, List.length_nil, Nat.zero_add, Nat.mul_one, Nat.mod_one]
  rw [Array.getElem?_toList, List.getElem?_replicate]
  by_cases h : j < n
  · simp [h]
  · simp [h]
section
variable {w0 : World} {X : List Nat} {M : List Blk} {I : List Frag}
theorem wpList_clear_g {P : Program} {ops : Array Oper} {rest : List Oper} {o : Oper} {a : Act} {Q : Exit → Act → World → Prop} (hgd : o.guard = none) (s : Operand) (sT : TypeId)
    (ho : o.op = .call { callee := .builtin .clear, args := #[s], argTypes := #[sT] }) (elem : TypeId) (hu : P.underlying sT = some (.slice elem)) (z zc : Value) (hz : ∀ w, (zeroValue elem).run P w = .ok z w) (hz1 : z.cells = #[zc]) (h1 : zc.oneCell' = true)
    (b off n cap : Nat) (hs : a.eval s = .slice (some ⟨b, off, none⟩) n cap) (hn : 0 < n)
    (g : G w0 X M I) (i : Nat) {T : TypeId} {cur : List Value} (hM : M[i]? = some (b, T, cur)) (hfit : off + n ≤ cur.length)
    (h : ∀ g' : G w0 X (M.set i (b, T, splice cur off (List.replicate n zc))) I, wpList P ops Q rest (a.put o.dst (.tuple #[])) g'.w) :
    wpList P ops Q (o :: rest) a g.w := by
  have hg := g.own _ (List.mem_of_getElem? hM)
  refine wpList_plain hgd fun K hK => ?_
  obtain ⟨m, rfl⟩ : ∃ m, n = m + 1 := ⟨n - 1, by omega⟩
  have hst := run_storeCells_at P b off T (List.replicate (m + 1) zc) 0 cur.toArray g.w hg (by simpa using hfit) (fun v hv => by rw [List.eq_of_mem_replicate hv]; exact h1)
  rw [Nat.add_zero, List.length_replicate] at hst
  have hrun : (Builtin.clear_ #[sT] o.type #[.slice (some ⟨b, off, none⟩) (m + 1) cap]).run P g.w = .ok (.tuple #[]) (g.w.setRow b (splice cur off (List.replicate (m + 1) zc)).toArray) := by
    simp only [Builtin.clear_, Sem.run_bind, run_underlying hu, Result.andThen_ok, hz, hz1, zeroCells_one, hst, Sem.run_pure]
    simp [splice, run_underlying hu, hz, hz1, zeroCells_one, hst, Result.andThen]
  unfold Oper.wp
  simp [execOp, ho, resolve, invoke, builtin, hs, hrun, Result.andThen]
  refine hK _ _ ?_
  obtain ⟨g', e⟩ := g.setRow_ex i hM (splice cur off (List.replicate (m + 1) zc))
  have := h g'
  rw [← e] at this
  exact this
end
end Go.Proofs.YtjdnpkicdmapnaaGreatDoor.GW
