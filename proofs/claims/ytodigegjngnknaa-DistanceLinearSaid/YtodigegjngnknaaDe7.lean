/- Plain facts and contracts of functions of the program, out of walks. Their conditions stand ahead of each. -/
import Derived.Test.YtodigegjngnknaaDe6
import Derived.Below
import Derived.Deep.Draws
import Derived.Laws.NewBlocks
import Derived.Laws.OwnMore
import Derived.Laws.Rows
import Derived.RangeFuncNested
import Derived.WalkKit
set_option linter.unusedVariables false
set_option linter.unusedSimpArgs false
namespace Go.Proofs.Ytodigegjngnknaa.GW
open Go
open Go.RowKit
section
variable {w0 : World} {M M' : List Blk} {I : List Frag}
/-- a block that holds no cells turns, or there are new blocks -/
theorem G.grown_ex (g : G w0 [] M I) {W' : World} {row : Option Nat} {B : Nat} (hB : w0.heap.size ≤ B) (hI : ∀ f ∈ I, ∀ k o, f k = some o → k < B ∨ o.isCells = true) (hg : g.w.grownBy W' row)
    (hr : ∀ r, row = some r → B ≤ r ∧ ∃ o : Obj, g.w.heap[r]? = some o ∧ o.isCells = false) : ∃ g' : G w0 [] M I, W' = g'.w := by
  refine ⟨⟨W', Chg.of_below (g.below.grown hg g.chg.size (fun k e => Nat.le_trans hB (hr k e).1)), ?_, g.may, g.dist, ?_, g.keep⟩, rfl⟩
  · intro m hm
    refine (hg.block m.1 (g.lt hm) ?_).trans (g.own m hm)
    intro e
    obtain ⟨_, o, ho, hc⟩ := hr m.1 e.symm
    rw [g.own m hm] at ho
    cases ho
    cases hc
  · intro f hf k o hk
    refine (hg.block k (Frag.lt (g.sub f hf) hk) ?_).trans (g.sub f hf k o hk)
    intro e
    obtain ⟨h1, o', ho, hc⟩ := hr k e.symm
    rw [g.sub f hf k o hk] at ho
    cases ho
    rcases hI f hf k o hk with h | h
    · omega
    · rw [hc] at h; cases h
/-- the same world as the beginning of a walk that may write the blocks M -/
theorem G.rebase (g : G w0 [] M I) : ∃ g' : G g.w (M.map (·.1)) M I, g.w = g'.w :=
  ⟨⟨g.w, Chg.refl _ _, g.own, fun m hm => .inr (List.mem_map.2 ⟨m, hm, rfl⟩), g.dist, g.sub, fun f hf k o hk => ⟨.inr (g.keep f hf k o hk).2, (g.keep f hf k o hk).2⟩⟩, rfl⟩
/-- and back -/
theorem G.unbase (g : G w0 [] M I) (h : G g.w (M.map (·.1)) M' I) (e : M'.map (·.1) = M.map (·.1)) : ∃ g' : G w0 [] M' I, h.w = g'.w := by
  have mk : ∀ k, k ∈ M.map (·.1) → w0.heap.size ≤ k := by
    intro k hk
    obtain ⟨m, hm, rfl⟩ := List.mem_map.1 hk
    exact g.fresh hm
  refine ⟨⟨h.w, ⟨h.chg.os.trans g.chg.os, h.chg.tape.trans g.chg.tape, h.chg.output.trans g.chg.output, Nat.le_trans g.chg.size h.chg.size, fun k hk _ => ?_⟩, h.own, ?_, h.dist, h.sub, ?_⟩, rfl⟩
  · rw [h.chg.block k (Nat.lt_of_lt_of_le hk g.chg.size) (fun hm => by have := mk k hm; omega)]
    exact g.chg.block k hk (by simp)
  · intro m hm
    refine .inl (mk _ ?_)
    rw [← e]
    exact List.mem_map.2 ⟨m, hm, rfl⟩
  · intro f hf k o hk
    refine ⟨.inr (by simp), ?_⟩
    rw [e]
    exact (g.keep f hf k o hk).2
/-- what holds no cells stays -/
theorem G.keeps (g : G w0 [] M I) (h : G g.w (M.map (·.1)) M' I) : KeepsOthers g.w h.w :=
  ⟨h.chg.size, fun k o hk ho => by
    rw [h.chg.block k (Array.getElem?_eq_some_iff.1 hk).1 ?_]
    · exact hk
    · intro hm
      obtain ⟨m, hm2, e⟩ := List.mem_map.1 hm
      have := g.own m hm2
      rw [e, hk] at this
      cases this
      cases ho⟩
end
/-- what was below n₀ stays, and the block Bs -/
structure KeepB (n₀ Bs : Nat) (W W' : World) : Prop where
  old : ∀ k, k < n₀ → W'.heap[k]? = W.heap[k]?
  box : W'.heap[Bs]? = W.heap[Bs]?
theorem KeepB.refl (n₀ Bs : Nat) (W : World) : KeepB n₀ Bs W W := ⟨fun _ _ => rfl, rfl⟩
theorem KeepB.trans {n₀ Bs : Nat} {A B C : World} (h : KeepB n₀ Bs A B) (k : KeepB n₀ Bs B C) : KeepB n₀ Bs A C := ⟨fun i hi => (k.old i hi).trans (h.old i hi), k.box.trans h.box⟩
theorem KeepB.put {n₀ Bs l : Nat} {W : World} {o : Obj} (h : n₀ ≤ l) (hb : Bs ≠ l) : KeepB n₀ Bs W (W.putObj l o) :=
  ⟨fun k hk => World.putObj_heap_other (by omega), World.putObj_heap_other (by omega)⟩
theorem G.keepB {w0 : World} {M M' : List Blk} {Bs : Nat} {o : Obj} (g : G w0 [] M [blkF Bs o, heapOf w0]) {w1 : World} {X : List Nat} (h : G w1 X M' [blkF Bs o, heapOf w0]) : KeepB w0.heap.size Bs g.w h.w := by
  have hb : ∀ k o', blkF Bs o k = some o' → h.w.heap[k]? = g.w.heap[k]? := fun k o' hk => (h.sub _ (by simp) k o' hk).trans (g.sub _ (by simp) k o' hk).symm
  refine ⟨fun k hk => ?_, hb Bs o (by simp [blkF])⟩
  have e : heapOf w0 k = some w0.heap[k] := Array.getElem?_eq_getElem hk
  exact (h.sub (heapOf w0) (by simp) k _ e).trans (g.sub (heapOf w0) (by simp) k _ e).symm
/-- behind the end of a function that collected deferred calls -/
theorem New.put {w0 W : World} {F : Frag} {D : Nat} {o o' : Obj} (h : New w0 W F) (hd : W.heap[D]? = some o) (ho : o.isCells = false) (hD : w0.heap.size ≤ D) (hF : ∀ k o, F k = some o → o.isCells = true) : New w0 (W.putObj D o') F :=
  ⟨h.below.grown (grownBy_putObj' W D o') (by have := (Array.getElem?_eq_some_iff.1 hd).1; omega) (fun k e => by cases e; exact hD), fun k o2 hk => by
    rw [World.putObj_heap_other (fun e => by
      subst e
      have := h.sub _ _ hk
      rw [hd] at this
      cases this
      rw [hF _ _ hk] at ho; cases ho)]
    exact h.sub k o2 hk, h.new⟩
end Go.Proofs.Ytodigegjngnknaa.GW
namespace Go.Proofs.Ytodigegjngnknaa.GW
open Go
open Go.RowKit
/-- a block that nobody writes any more -/
theorem G.fix {w0 : World} {M : List Blk} {I : List Frag} {b : Nat} {T : TypeId} {cs : List Value} (g : G w0 [] ((b, T, cs) :: M) I) : ∃ g' : G w0 [] M (blkF b (.cells cs.toArray T (0, 0)) :: I), g.w = g'.w := by
  have hd := g.dist
  rw [List.map_cons, List.nodup_cons] at hd
  refine ⟨⟨g.w, g.chg, fun m hm => g.own m (List.mem_cons_of_mem _ hm), fun m hm => g.may m (List.mem_cons_of_mem _ hm), hd.2, ?_, ?_⟩, rfl⟩
  · intro f hf
    rcases List.mem_cons.1 hf with rfl | hf
    · exact blkF_sub g.blk0
    · exact g.sub f hf
  · intro f hf k o hk
    refine ⟨.inr (by simp), ?_⟩
    rcases List.mem_cons.1 hf with rfl | hf
    · rw [blkF_at hk]; exact hd.1
    · exact fun hm => (g.keep f hf k o hk).2 (by rw [List.map_cons]; exact List.mem_cons_of_mem _ hm)
/-- a block that holds no cells -/
theorem G.seeD {w0 : World} {M : List Blk} {I : List Frag} (g : G w0 [] M I) {D : Nat} {o : Obj} (h : g.w.heap[D]? = some o) (ho : o.isCells = false) : ∃ g' : G w0 [] M (blkF D o :: I), g.w = g'.w :=
  ⟨g.see (blkF D o) (blkF_sub h) fun k o' hk => ⟨.inr (by simp), fun hm => by
    obtain ⟨m, hm2, e⟩ := List.mem_map.1 hm
    have := g.own m hm2
    rw [e, blkF_at hk, h] at this
    cases this
    cases ho⟩, rfl⟩
end Go.Proofs.Ytodigegjngnknaa.GW
namespace Go.Proofs.Ytodigegjngnknaa.GW
open Go
theorem G.at_rebase {w0 : World} {M : List Blk} {I : List Frag} {p : World → Prop} (g : G w0 [] M I) (hp : ∀ h : G g.w (M.map (·.1)) M I, p h.w) : p g.w := by
  obtain ⟨h, e⟩ := g.rebase
  exact e ▸ hp h
end Go.Proofs.Ytodigegjngnknaa.GW
