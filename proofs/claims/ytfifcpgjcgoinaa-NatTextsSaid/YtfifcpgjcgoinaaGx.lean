/- Worlds of a walk, known by their type. No conditions. -/
import Derived.Test.YtfifcpgjcgoinaaGw
set_option linter.unusedVariables false
set_option linter.unusedSimpArgs false
namespace Go.Proofs.Ytfifcpgjcgoinaa.GW
open Go
open Go.RowKit
section
variable {w0 : World} {X : List Nat} {M : List Blk} {I : List Frag}
/-- a call that makes a block that its caller owns from then on -/
theorem G.own_ex (g : G w0 X M I) {w1 : World} {b : Nat} {T : TypeId} {cs : List Value} (h : Below g.w.heap.size g.w w1) (hb : g.w.heap.size ≤ b) (hh : w1.heap[b]? = some (.cells cs.toArray T (0, 0))) :
    ∃ g' : G w0 X ((b, T, cs) :: M) I, w1 = g'.w := by
  refine ⟨⟨w1, (g.call h).chg, ?_, ?_, ?_, (g.call h).sub, ?_⟩, rfl⟩
  · intro m hm
    rcases List.mem_cons.1 hm with rfl | hm
    · exact hh
    · exact (g.call h).own m hm
  · intro m hm
    rcases List.mem_cons.1 hm with rfl | hm
    · exact .inl (Nat.le_trans g.chg.size hb)
    · exact g.may m hm
  · rw [List.map_cons, List.nodup_cons]
    refine ⟨?_, g.dist⟩
    intro hm
    obtain ⟨m, hm, e⟩ := List.mem_map.1 hm
    have := g.lt hm
    simp only at e
    omega
  · intro f hf k o hk
    obtain ⟨h1, h2⟩ := g.keep f hf k o hk
    refine ⟨h1, ?_⟩
    rw [List.map_cons, List.mem_cons]
    rintro (e | e)
    · have := Frag.lt (g.sub f hf) hk
      simp only at e
      omega
    · exact h2 e
theorem G.as {M' : List Blk} (g : G w0 X M I) (h : M = M') : ∃ g' : G w0 X M' I, g.w = g'.w := by subst h; exact ⟨g, rfl⟩
/-- the blocks that the call owns were not there when it began -/
theorem G.fresh (g : G w0 [] M I) {m : Blk} (h : m ∈ M) : w0.heap.size ≤ m.1 := by
  rcases g.may m h with h | h
  · exact h
  · cases h
end
end Go.Proofs.Ytfifcpgjcgoinaa.GW
