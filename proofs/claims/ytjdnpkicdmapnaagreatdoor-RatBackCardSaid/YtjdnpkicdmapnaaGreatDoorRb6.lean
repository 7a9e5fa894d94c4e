/- Plain facts and contracts of functions of the program, out of walks. Their conditions stand ahead of each. -/
import Derived.Deep.RegionHeld3
import Derived.OrdersIn
import Derived.RangeFuncNested
set_option linter.unusedVariables false
set_option linter.unusedSimpArgs false
namespace Go.Proofs.YtjdnpkicdmapnaaGreatDoor.GW
open Go
open Go Go.RowKit
def noDefer (ops : Array Oper) : Bool := ops.all fun o => match o.op with | .defer _ => false | _ => true
theorem noDefer_at {ops : Array Oper} (h : noDefer ops = true) {i : Nat} {o : Oper} (ho : ops[i]? = some o) : ∀ c, o.op ≠ .defer c := by
  intro c e
  have hm := Array.mem_of_getElem? ho
  have := Array.all_eq_true_iff_forall_mem.1 h o hm
  rw [e] at this
  cases this
theorem RowsIn_next {P : Program} {row : String} {args : Array Value} {w : World} {R R' : Value → World → Prop} (h : Rows P row args w R) (hr : ∀ v w', R v w' → R' v w') : Rows P row args w R' := h.mono hr
theorem rowsIn_wide {P : Program} {row : String} {args : Array Value} {w : World} {R : Value → World → Prop} {l n : Nat} (h : Rows P row args w R) : RowsIn (Fence.wide.inRound l) n P row args w R := by
  intro c cs _
  obtain ⟨v, w', r, s⟩ := h c cs
  exact ⟨v, w', r, stepsIn_wide.2 s⟩
theorem upon_inRound {P : Program} {o : Oper} {a : Act} {next next' : Act → World → Prop} {Q : Exit → Act → World → Prop} {l n : Nat} (hn : ∀ a w, next a w → next' a w) (r : Result Next) (h : o.upon P a next Q r) :
    o.uponIn (Fence.wide.inRound l) n P a next' Q r := by
  cases r with
  | ok x w =>
    cases x
    case value v => exact hn _ _ h
    case skip => exact hn _ _ h
    case defer d => exact hn _ _ h
    case enter f args =>
      refine ⟨fun h => (by cases h), CallsIn.inRound l (callsIn_wide.2 ?_)⟩
      refine Calls.mono h ?_
      intro e w' he
      cases e with
      | returned v => exact hn _ _ he
      | panicked c => exact he
      | outgrown => exact he
    case row r args => exact ⟨fun h => (by cases h), rowsIn_wide (RowsIn_next h (fun v w' h' => hn _ _ h'))⟩
    all_goals exact False.elim h
  | halt x w =>
    cases x <;> first | exact h | exact False.elim h
theorem wpAny_inRound {P : Program} {md : Region.Mode} {ops : Array Oper} {Q : Exit → Act → World → Prop} {l n : Nat} (hlo : ¬ LetsOut Q) (hnd : noDefer ops = true) :
    ∀ (fuel : Nat) (listed : Array Bool) (a : Act) (w : World), wpAny P md ops Q fuel listed a w → wpAnyIn (Fence.wide.inRound l) n P md ops Q fuel listed a w
  | 0, _, _, _, h => h
  | fuel + 1, listed, a, w, h => by
    refine ⟨h.1, fun i hi => ?_⟩
    have hs := h.2 i hi
    unfold wpOp at hs
    unfold wpOpIn
    cases ho : ops[i]? with
    | none => rw [ho] at hs; exact wpAny_inRound hlo hnd fuel _ a w hs
    | some o =>
      rw [ho] at hs
      dsimp only at hs ⊢
      split
      · next hw =>
        rw [if_pos hw] at hs
        rcases hs with hs | hs
        · refine ⟨fun _ _ => trivial, ?_⟩
          rw [Oper.semAt_eq _ _ _ (noDefer_at hnd ho)]
          exact upon_inRound (fun a' w' h' => wpAny_inRound hlo hnd fuel _ a' w' h') _ hs
        · exact absurd hs.2 hlo
      · next hw =>
        rw [if_neg hw] at hs
        exact ⟨fun _ _ => trivial, wpAny_inRound hlo hnd fuel _ _ w hs⟩
theorem wpIn_round_held {P : Program} {ops : Array Oper} {S : World → Prop} {Q : Exit → Act → World → Prop} {l n id : Nat} {a : Act} {w : World} (hm : P.follows .mixedOrders = true) (hlo : ¬ LetsOut Q) (hnd : noDefer ops = true) (hS : S w.drew)
    (h : S w.drew → wpAnyH P .any ops Q S ops.size (Array.replicate ops.size false) a w.drew) : (Code.region id ops true).wpIn (Fence.wide.inRound l) n P Q a w :=
  wpIn_region_any hm (wpAny_inRound hlo hnd _ _ _ _ (wpAny_of_held _ _ _ _ (h hS)))
end Go.Proofs.YtjdnpkicdmapnaaGreatDoor.GW
