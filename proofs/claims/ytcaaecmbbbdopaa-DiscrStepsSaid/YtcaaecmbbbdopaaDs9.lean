/- Plain facts and contracts of functions of the program, out of walks. Their conditions stand ahead of each. -/
import Derived.Test.YtcaaecmbbbdopaaDs8
import Derived.Below
import Derived.Deep.Draws
import Derived.Deep.RegionHeld
import Derived.Laws.CopyOwn
import Derived.Laws.NewBlocks
import Derived.Laws.OwnMore
import Derived.Laws.Rows
import Derived.Laws.Tables
import Derived.Lib.BitFns
import Derived.Lib.ItoaNum
import Derived.Maps.AppendAt
import Derived.OrdersHeld
import Derived.WalkKit
set_option linter.unusedVariables false
set_option linter.unusedSimpArgs false
namespace Go.Proofs.Ytcaaecmbbbdopaa.GW
open Go
open Go
theorem wpAnyH_named {P : Program} {ops : Array Oper} {Q : Exit → Act → World → Prop} {md : Region.Mode} {S : World → Prop} {f : Nat} {l : Array Bool} {a : Act} {w : World}
    (h : ∀ WP : Nat → Array Bool → Act → World → Prop, (∀ f l a w, wpAnyH P md ops Q S f l a w → WP f l a w) → (∀ f l a w, WP f l a w → wpAnyH P md ops Q S f l a w) → WP f l a w) : wpAnyH P md ops Q S f l a w :=
  h (fun f l a w => wpAnyH P md ops Q S f l a w) (fun _ _ _ _ h => h) (fun _ _ _ _ h => h)
theorem named_conv {WP : Nat → Array Bool → Act → World → Prop} {f f' : Nat} {l l' : Array Bool} {a a' : Act} {w : World} (hf : f = f') (hl : l = l') (ha : a = a') (h : WP f' l' a' w) : WP f l a w := by
  subst hf hl ha
  exact h
theorem named_act {WP : Nat → Array Bool → Act → World → Prop} {f : Nat} {l : Array Bool} {a : Act} {w : World} (h : ∀ A, A = a → WP f l A w) : WP f l a w := h a rfl
/-- The operation that comes up next, laid open, without a guard. -/
theorem allReadyH_cons {P : Program} {ops : Array Oper} {Q : Exit → Act → World → Prop} {md : Region.Mode} {S : World → Prop} {fuel : Nat} {listed : Array Bool} {a : Act} {w : World} {i : Nat} {o : Oper} {rs : List Nat} (ho : ops.toList[i]? = some o) (hg : o.guard = none)
    (h : ∀ K' : Act → World → Prop, Shut (∀ a w, S w → (S w → wpAnyH P md ops Q S fuel (listed.setIfInBounds i true) a w) → K' a w) → Oper.wp P o a w K' Q)
    (hs : AllReadyH P md ops Q S fuel listed a w rs) : AllReadyH P md ops Q S fuel listed a w (i :: rs) :=
  AllReadyH.cons (o := o) (by rw [← Array.getElem?_toList]; exact ho) (fun K' hK => by
    have : Region.wanted o (yielded ops a.tmps) = true := by unfold Region.wanted; rw [hg]
    rw [if_pos this]
    exact h K' hK) hs
/-- A whole struct into the block at the head. -/
theorem G.setRow0_ex {w0 : World} {X : List Nat} {I : List Frag} {b : Nat} {T : TypeId} {cs : List Value} {M : List Blk} (g : G w0 X ((b, T, cs) :: M) I) (cells : List Value) : ∃ g' : G w0 X ((b, T, cells) :: M) I, g.w.setRow b cells.toArray = g'.w :=
  g.mut0 (cs' := cells) ⟨rfl, rfl, rfl, by simp, fun k _ hX => setRow_other _ _ _ _ (fun e => hX (e ▸ List.mem_singleton.2 rfl))⟩ (setRow_heap _ _ _ _ _ _ g.blk0)
/-- A composite literal of which every part is known may be taken first. -/
theorem yields_build {P : Program} {ops : Array Oper} {S : World → Prop} {o : Oper} {a : Act} (t : TypeId) (parts : Array (Nat × Operand)) (ho : o.op = .build t parts) (hg : o.guard = none) (vs : List (Nat × Value)) (cells : Array Value)
    (hv : (parts.map fun (i, x) => (i, a.eval x)).toList = vs) (hc : P.built t vs = some cells) : YieldsIf P ops S o (.agg cells) a :=
  Or.inl ⟨by unfold Region.wanted; rw [hg], fun w _ => by
    unfold execOp
    simp only [ho, Sem.run_bind, run_build w t _ cells (hv ▸ hc), Result.andThen_ok, Sem.run_pure]⟩
end Go.Proofs.Ytcaaecmbbbdopaa.GW
