/- Plain facts and contracts of functions of the program, out of walks. Their conditions stand ahead of each. -/
import Derived.Test.YtcaaecmbbbdopaaDs5
import Derived.Below
import Derived.Deep.Draws
import Derived.Laws.CopyOwn
import Derived.Laws.NewBlocks
import Derived.Laws.OwnMore
import Derived.Laws.Rows
import Derived.Maps.AppendAt
import Derived.WalkKit
set_option linter.unusedVariables false
set_option linter.unusedSimpArgs false
namespace Go.Proofs.Ytcaaecmbbbdopaa.GW
open Go
open Go.RowKit NL
section
variable {w0 : World} {X : List Nat} {M : List Blk} {I : List Frag}
theorem G.setRow_ex (g : G w0 X M I) (n : Nat) {b : Nat} {T : TypeId} {cs : List Value} (hn : M[n]? = some (b, T, cs)) (cs' : List Value) :
    ∃ g' : G w0 X (M.set n (b, T, cs')) I, g.w.setRow b cs'.toArray = g'.w := by
  have hm := g.own _ (List.mem_of_getElem? hn)
  refine ⟨g.turn n hn cs' (g.w.setRow b cs'.toArray) ⟨g.chg.os, g.chg.tape, g.chg.output, by rw [setRow_size]; exact g.chg.size, fun k hk hx => ?_⟩ (setRow_heap _ _ _ _ _ _ hm) (fun k _ hne => setRow_other _ _ _ _ hne), rfl⟩
  rw [setRow_other _ _ _ _ (by
    rintro rfl
    rcases g.may _ (List.mem_of_getElem? hn) with h | h
    · simp only at h; omega
    · exact hx h)]
  exact g.chg.block k hk hx
theorem wpList_copy_g {P : Program} {ops : Array Oper} {rest : List Oper} {o : Oper} {a : Act} {Q : Exit → Act → World → Prop} (hgd : o.guard = none) (d s : Operand) (dT sT : TypeId)
    (ho : o.op = .call { callee := .builtin .copy, args := #[d, s], argTypes := #[dT, sT] }) (elem : TypeId) (hu : P.underlying dT = some (.slice elem)) (hsz : (P.info? elem).map (·.size) = some 1)
    (dp sp : Option Addr) (dLen dCap sLen sCap : Nat) (hd : a.eval d = .slice dp dLen dCap) (hs : a.eval s = .slice sp sLen sCap)
    (g : G w0 X M I) (n : Nat) {b : Nat} {T : TypeId} {cur : List Value} (hM : M[n]? = some (b, T, cur)) (off : Nat) (cs : List Value) (hn : cs.length = Nat.min sLen dLen)
    (hpos : 0 < cs.length → dp = some ⟨b, off, none⟩ ∧ ∃ ad, sp = some ad ∧ ∀ j v, cs[j]? = some v → g.w.cell? (ad.add j) = some v)
    (hfit : off + cs.length ≤ cur.length) (h1 : ∀ v ∈ cs, v.oneCell' = true)
    (h : ∀ g' : G w0 X (M.set n (b, T, splice cur off cs)) I, wpList P ops Q rest (a.put o.dst (goInt cs.length)) g'.w) :
    wpList P ops Q (o :: rest) a g.w := by
  by_cases h0 : cs.length = 0
  · obtain rfl : cs = [] := List.eq_nil_of_length_eq_zero h0
    refine wpList_copy_nothing hgd d s dT sT ho elem hu hsz dp sp dLen dCap sLen sCap hd hs (by simpa using hn.symm) ?_
    have e : M.set n (b, T, splice cur off []) = M := by
      rw [show splice cur off [] = cur by simp [splice]]
      have hl : n < M.length := (List.getElem?_eq_some_iff.1 hM).1
      have hv : M[n] = (b, T, cur) := (List.getElem?_eq_some_iff.1 hM).2
      rw [← hv]
      exact List.set_getElem_self hl
    obtain ⟨g2, e2⟩ := g.as e.symm
    have := h g2
    rw [← e2] at this
    exact this
  · obtain ⟨rfl, ad, rfl, hsrc⟩ := hpos (by omega)
    have hg := g.own _ (List.mem_of_getElem? hM)
    refine wpList_copy_own hgd d s dT sT ho elem hu hsz b off dLen dCap ad sLen sCap hd hs cur.toArray T hg cs hn hsrc (by simpa using hfit) h1 ?_
    obtain ⟨g', e⟩ := g.setRow_ex n hM (splice cur off cs)
    have := h g'
    rw [← e] at this
    exact this
end
end Go.Proofs.Ytcaaecmbbbdopaa.GW
