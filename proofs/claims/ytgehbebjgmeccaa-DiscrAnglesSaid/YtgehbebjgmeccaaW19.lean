/- Contracts of functions of the program and of its reference, out of walks. Their conditions stand ahead of each. -/
import Derived.Test.YtgehbebjgmeccaaW18
set_option linter.unusedVariables false
set_option linter.unusedSimpArgs false
namespace Go.Proofs.Ytgehbebjgmeccaa
open Go.RowKit
open Classical in
noncomputable def inE (p : Prop) : Int := if p then 0 else 2
open Classical in
noncomputable def inV (p : Prop) (v : Int) : Int := if p then v else 0
theorem inE_yes {p : Prop} (h : p) : inE p = 0 := by unfold inE; rw [if_pos h]
theorem inE_no {p : Prop} (h : ¬ p) : inE p = 2 := by unfold inE; rw [if_neg h]
theorem inV_yes {p : Prop} (h : p) (v : Int) : inV p v = v := by unfold inV; rw [if_pos h]
theorem inV_no {p : Prop} (h : ¬ p) (v : Int) : inV p v = 0 := by unfold inV; rw [if_neg h]
def In3 (a b c d s t : Int) : Prop := InB (a, b) ∧ InB (c, d) ∧ InB (s, t)
def In2 (a b c d : Int) : Prop := InB (a, b) ∧ InB (c, d)
def In1 (a b : Int) : Prop := InB (a, b)
theorem Full_any (x y : Int) (w : World) :
    Calls Try.prog 26 #[.agg #[.int .i64 x, .int .i64 y]] w fun e w' => e = .returned (.tuple #[.int .i64 (inV (In1 x y) (fullF (Ang.fineF x y))), .int .i64 (inE (In1 x y))]) ∧ Below w.heap.size w w' := by
  by_cases h : InB (x, y)
  · rw [inV_yes (show In1 x y from h), inE_yes (show In1 x y from h)]; exact Full_yes x y w h
  · rw [inV_no (show ¬ In1 x y from h), inE_no (show ¬ In1 x y from h)]; exact Full_no x y w h
theorem rFull_any (x y : Int) (w : World) :
    Calls Try.prog 27 #[.agg #[.int .i64 x, .int .i64 y]] w fun e w' => e = .returned (.tuple #[.int .i64 (inV (In1 x y) (fullF (Ang.fineF x y))), .int .i64 (inE (In1 x y))]) ∧ Below w.heap.size w w' := by
  by_cases h : InB (x, y)
  · rw [inV_yes (show In1 x y from h), inE_yes (show In1 x y from h)]; exact rFull_yes x y h w
  · rw [inV_no (show ¬ In1 x y from h), inE_no (show ¬ In1 x y from h)]; exact rFull_no x y h w
theorem Half_any (x y : Int) (w : World) :
    Calls Try.prog 28 #[.agg #[.int .i64 x, .int .i64 y]] w fun e w' => e = .returned (.tuple #[.int .i64 (inV (In1 x y) (halfF (Ang.fineF x y))), .int .i64 (inE (In1 x y))]) ∧ Below w.heap.size w w' := by
  by_cases h : InB (x, y)
  · rw [inV_yes (show In1 x y from h), inE_yes (show In1 x y from h)]; exact Half_yes x y w h
  · rw [inV_no (show ¬ In1 x y from h), inE_no (show ¬ In1 x y from h)]; exact Half_no x y w h
theorem rHalf_any (x y : Int) (w : World) :
    Calls Try.prog 29 #[.agg #[.int .i64 x, .int .i64 y]] w fun e w' => e = .returned (.tuple #[.int .i64 (inV (In1 x y) (halfF (Ang.fineF x y))), .int .i64 (inE (In1 x y))]) ∧ Below w.heap.size w w' := by
  by_cases h : InB (x, y)
  · rw [inV_yes (show In1 x y from h), inE_yes (show In1 x y from h)]; exact rHalf_yes x y h w
  · rw [inV_no (show ¬ In1 x y from h), inE_no (show ¬ In1 x y from h)]; exact rHalf_no x y h w
theorem Lock_any (x y : Int) (w : World) :
    Calls Try.prog 30 #[.agg #[.int .i64 x, .int .i64 y]] w fun e w' => e = .returned (.tuple #[.int .i64 (inV (In1 x y) (shareF (x * x - y * y) (x * x + y * y))), .int .i64 (inE (In1 x y))]) ∧ Below w.heap.size w w' := by
  by_cases h : InB (x, y)
  · rw [inV_yes (show In1 x y from h), inE_yes (show In1 x y from h)]; exact Lock_yes x y w h
  · rw [inV_no (show ¬ In1 x y from h), inE_no (show ¬ In1 x y from h)]; exact Lock_no x y w h
theorem rLock_any (x y : Int) (w : World) :
    Calls Try.prog 31 #[.agg #[.int .i64 x, .int .i64 y]] w fun e w' => e = .returned (.tuple #[.int .i64 (inV (In1 x y) (shareF (x * x - y * y) (x * x + y * y))), .int .i64 (inE (In1 x y))]) ∧ Below w.heap.size w w' := by
  by_cases h : InB (x, y)
  · rw [inV_yes (show In1 x y from h), inE_yes (show In1 x y from h)]; exact rLock_yes x y h w
  · rw [inV_no (show ¬ In1 x y from h), inE_no (show ¬ In1 x y from h)]; exact rLock_no x y h w
theorem Rate_any (a b c d : Int) (w : World) :
    Calls Try.prog 35 #[.agg #[.int .i64 a, .int .i64 b], .agg #[.int .i64 c, .int .i64 d]] w fun e w' => e = .returned (.tuple #[.int .i64 (inV (In2 a b c d) (fullF (Ang.fineF (a * c + b * d) (a * d - b * c)))), .int .i64 (inE (In2 a b c d))]) ∧ Below w.heap.size w w' := by
  by_cases h : InB (a, b) ∧ InB (c, d)
  · rw [inV_yes (show In2 a b c d from h), inE_yes (show In2 a b c d from h)]; exact Rate_yes a b c d w h.1 h.2
  · rw [inV_no (show ¬ In2 a b c d from h), inE_no (show ¬ In2 a b c d from h)]; exact Rate_no a b c d w h
theorem rRate_any (a b c d : Int) (w : World) :
    Calls Try.prog 36 #[.agg #[.int .i64 a, .int .i64 b], .agg #[.int .i64 c, .int .i64 d]] w fun e w' => e = .returned (.tuple #[.int .i64 (inV (In2 a b c d) (fullF (Ang.fineF (a * c + b * d) (a * d - b * c)))), .int .i64 (inE (In2 a b c d))]) ∧ Below w.heap.size w w' := by
  by_cases h : InB (a, b) ∧ InB (c, d)
  · rw [inV_yes (show In2 a b c d from h), inE_yes (show In2 a b c d from h)]; exact rRate_yes a b c d w h.1 h.2
  · rw [inV_no (show ¬ In2 a b c d from h), inE_no (show ¬ In2 a b c d from h)]; exact rRate_no a b c d w h
theorem HalfRate_any (a b c d : Int) (w : World) :
    Calls Try.prog 37 #[.agg #[.int .i64 a, .int .i64 b], .agg #[.int .i64 c, .int .i64 d]] w fun e w' => e = .returned (.tuple #[.int .i64 (inV (In2 a b c d) (halfF (Ang.fineF (a * c + b * d) (a * d - b * c)))), .int .i64 (inE (In2 a b c d))]) ∧ Below w.heap.size w w' := by
  by_cases h : InB (a, b) ∧ InB (c, d)
  · rw [inV_yes (show In2 a b c d from h), inE_yes (show In2 a b c d from h)]; exact HalfRate_yes a b c d w h.1 h.2
  · rw [inV_no (show ¬ In2 a b c d from h), inE_no (show ¬ In2 a b c d from h)]; exact HalfRate_no a b c d w h
theorem rHalfRate_any (a b c d : Int) (w : World) :
    Calls Try.prog 38 #[.agg #[.int .i64 a, .int .i64 b], .agg #[.int .i64 c, .int .i64 d]] w fun e w' => e = .returned (.tuple #[.int .i64 (inV (In2 a b c d) (halfF (Ang.fineF (a * c + b * d) (a * d - b * c)))), .int .i64 (inE (In2 a b c d))]) ∧ Below w.heap.size w w' := by
  by_cases h : InB (a, b) ∧ InB (c, d)
  · rw [inV_yes (show In2 a b c d from h), inE_yes (show In2 a b c d from h)]; exact rHalfRate_yes a b c d w h.1 h.2
  · rw [inV_no (show ¬ In2 a b c d from h), inE_no (show ¬ In2 a b c d from h)]; exact rHalfRate_no a b c d w h
theorem Turn_any (a b c d : Int) (w : World) :
    Calls Try.prog 33 #[.agg #[.int .i64 a, .int .i64 b], .agg #[.int .i64 c, .int .i64 d]] w fun e w' => e = .returned (.tuple #[.agg #[.int .i64 (inV (In2 a b c d) (a * c + b * d)), .int .i64 (inV (In2 a b c d) (a * d - b * c))], .int .i64 (inE (In2 a b c d))]) ∧ Below w.heap.size w w' := by
  by_cases h : InB (a, b) ∧ InB (c, d)
  · rw [inV_yes (show In2 a b c d from h), inV_yes (show In2 a b c d from h), inE_yes (show In2 a b c d from h)]; exact Turn_yes a b c d w h.1 h.2
  · rw [inV_no (show ¬ In2 a b c d from h), inV_no (show ¬ In2 a b c d from h), inE_no (show ¬ In2 a b c d from h)]; exact Turn_no a b c d w h
theorem rTurn_any (a b c d : Int) (w : World) :
    Calls Try.prog 34 #[.agg #[.int .i64 a, .int .i64 b], .agg #[.int .i64 c, .int .i64 d]] w fun e w' => e = .returned (.tuple #[.agg #[.int .i64 (inV (In2 a b c d) (a * c + b * d)), .int .i64 (inV (In2 a b c d) (a * d - b * c))], .int .i64 (inE (In2 a b c d))]) ∧ Below w.heap.size w w' := by
  by_cases h : InB (a, b) ∧ InB (c, d)
  · rw [inV_yes (show In2 a b c d from h), inV_yes (show In2 a b c d from h), inE_yes (show In2 a b c d from h)]; exact rTurn_yes a b c d w h.1 h.2
  · rw [inV_no (show ¬ In2 a b c d from h), inV_no (show ¬ In2 a b c d from h), inE_no (show ¬ In2 a b c d from h)]; exact rTurn_no a b c d w h
theorem Code_any (a b c d s t : Int) (w : World) :
    Calls Try.prog 24 #[.agg #[.int .i64 a, .int .i64 b, .int .i64 c, .int .i64 d, .int .i64 s, .int .i64 t]] w fun e w' => e = .returned (.tuple #[.int .i64 (inV (In3 a b c d s t) (codeF a b s t)), .int .i64 (inE (In3 a b c d s t))]) ∧ Below w.heap.size w w' := by
  by_cases h : InB (a, b) ∧ InB (c, d) ∧ InB (s, t)
  · rw [inV_yes (show In3 a b c d s t from h), inE_yes (show In3 a b c d s t from h)]; exact Code_yes a b c d s t w h.1 h.2.1 h.2.2
  · rw [inV_no (show ¬ In3 a b c d s t from h), inE_no (show ¬ In3 a b c d s t from h)]; exact Code_no a b c d s t w h
theorem rCode_any (a b c d s t : Int) (w : World) :
    Calls Try.prog 25 #[.agg #[.int .i64 a, .int .i64 b, .int .i64 c, .int .i64 d, .int .i64 s, .int .i64 t]] w fun e w' => e = .returned (.tuple #[.int .i64 (inV (In3 a b c d s t) (codeF a b s t)), .int .i64 (inE (In3 a b c d s t))]) ∧ Below w.heap.size w w' := by
  by_cases h : InB (a, b) ∧ InB (c, d) ∧ InB (s, t)
  · rw [inV_yes (show In3 a b c d s t from h), inE_yes (show In3 a b c d s t from h)]; exact rCode_yes a b c d s t w h.1 h.2.1 h.2.2
  · rw [inV_no (show ¬ In3 a b c d s t from h), inE_no (show ¬ In3 a b c d s t from h)]; exact rCode_no a b c d s t w h
end Go.Proofs.Ytgehbebjgmeccaa
