/- Contracts of functions of the program and of its reference, out of walks. Their conditions stand ahead of each. -/
import Derived.Test.YtgehbebjgmeccaaW21
set_option linter.unusedVariables false
set_option linter.unusedSimpArgs false
namespace Go.Proofs.Ytgehbebjgmeccaa
open Go.ChangeShapes Go.WideShapes Go.ChangeAt Go.RowKit
theorem cells60 : Try.prog.cellsOf 60 = 1 := by kernel_rfl
theorem cells62 : Try.prog.cellsOf 62 = 2 := by kernel_rfl
section
variable {H : Type} {enc : TypeId × Value → H} {w : World} {base : Nat} {spare : Nat → Bool} {held : Bool}
set_option maxRecDepth 100000 in
theorem flat62 {fuel : Nat} {cs : List Value} {x : DataW H × List MemPlace} (h : DataW.trod enc Try.prog w base spare held fuel 62 cs = some x) :
    ∃ a b : Int, cs = [.int .i64 a, .int .u64 b] ∧ (Lit.int .i64 a).wf = true ∧ (Lit.int .u64 b).wf = true := by
  obtain ⟨xs, n, _, _, hlen, hxl, hf⟩ := DataW.trod_struct Try.underlying62 h
  rw [cells62] at hlen
  match cs, hlen with
  | [c0, c1], _ =>
    match xs, hxl with
    | [x0, x1], _ =>
      have h0 : DataW.trod enc Try.prog w base spare held n 3 [c0] = some x0 := by simpa [cells3] using hf 0 _ rfl
      have h1 : DataW.trod enc Try.prog w base spare held n 60 [c1] = some x1 := by simpa [cells60] using hf 1 _ rfl
      obtain ⟨a, e0, _, wa⟩ := DataW.trod_int Try.underlying3 h0
      obtain ⟨b, e1, _, wb⟩ := DataW.trod_int Try.underlying60 h1
      simp at e0 e1
      exact ⟨a, b, by rw [e0, e1], wa, wb⟩
set_option maxRecDepth 100000 in
theorem agg62 {r : Reach} {b0 : Nat} {v : Value} {d : DataW H} {p : List MemPlace} (hv : Value.okWide Try.prog w r b0 62 v) (h : DataW.Trod enc Try.prog w base spare held 62 v d p) :
    ∃ a b : Int, v = .agg #[.int .i64 a, .int .u64 b] ∧ (Lit.int .i64 a).wf = true ∧ (Lit.int .u64 b).wf = true := by
  obtain ⟨cs, rfl, _⟩ := okWide_struct Try.underlying62 hv
  obtain ⟨fuel, hf⟩ := h
  obtain ⟨a, b, e, wa, wb⟩ := flat62 hf
  refine ⟨a, b, ?_, wa, wb⟩
  have e' : cs.toList = [.int .i64 a, .int .u64 b] := by simpa [Value.cells] using e
  rw [← Array.toArray_toList (xs := cs), e']
end
end Go.Proofs.Ytgehbebjgmeccaa
