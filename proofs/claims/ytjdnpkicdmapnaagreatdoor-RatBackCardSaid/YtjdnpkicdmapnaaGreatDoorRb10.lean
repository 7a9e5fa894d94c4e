/- Plain facts and contracts of functions of the program, out of walks. Their conditions stand ahead of each. -/
import Derived.Test.YtjdnpkicdmapnaaGreatDoorRb9
import Derived.Below
import Derived.Deep.Draws
import Derived.Laws.NewBlocks
import Derived.Laws.OwnMore
import Derived.Laws.Rows
import Derived.RangeFuncNested
import Derived.WalkKit
set_option linter.unusedVariables false
set_option linter.unusedSimpArgs false
namespace Go.Proofs.YtjdnpkicdmapnaaGreatDoor.GW
open Go
open Go.RowKit
section
variable {w0 : World} {M M' : List Blk} {I : List Frag}
/-- a block that holds no cells turns, or there are new blocks -/
theorem G.grown_ex (g : G w0 [] M I) {W' : World} {row : Option Nat} {B : Nat} (hB : w0.heap.size ≤ B) (hI : ∀ f ∈ I, ∀ k o, f k = some o → k < B ∨ o.isCells = true) (hg : g.w.grownBy W' row)
    (hr : ∀ r, row = some r → B ≤ r ∧ ∃ o : Obj, g.w.heap[r]? = some o ∧ o.isCells = false) : ∃ g' : G w0 [] M I, W' = g'.w := by
  refine ⟨⟨W', Chg.of_below (g.below.grown hg g.chg.size (fun k e => Nat.le_trans hB (hr k e).1)), ?_, g.may, g.dist, ?_, g.keep⟩, rfl⟩
  · intro m hm
    refine (hg.block m.1 (g.lt hm) ?_).trans (g.own m hm)
    intro e
    obtain ⟨_, o, ho, hc⟩ := hr m.1 e.symm
    rw [g.own m hm] at ho
    cases ho
    cases hc
  · intro f hf k o hk
    refine (hg.block k (Frag.lt (g.sub f hf) hk) ?_).trans (g.sub f hf k o hk)
    intro e
    obtain ⟨h1, o', ho, hc⟩ := hr k e.symm
    rw [g.sub f hf k o hk] at ho
    cases ho
    rcases hI f hf k o hk with h | h
    · omega
    · rw [hc] at h; cases h
/-- the same world as the beginning of a walk that may write the blocks M -/
theorem G.rebase (g : G w0 [] M I) : ∃ g' : G g.w (M.map (·.1)) M I, g.w = g'.w :=
  ⟨⟨g.w, Chg.refl _ _, g.own, fun m hm => .inr (List.mem_map.2 ⟨m, hm, rfl⟩), g.dist, g.sub, fun f hf k o hk => ⟨.inr (g.keep f hf k o hk).2, (g.keep f hf k o hk).2⟩⟩, rfl⟩
/-- and back -/
theorem G.unbase (g : G w0 [] M I) (h : G g.w (M.map (·.1)) M' I) (e : M'.map (·.1) = M.map (·.1)) : ∃ g' : G w0 [] M' I, h.w = g'.w := by
  have mk : ∀ k, k ∈ M.map (·.1) → w0.heap.size ≤ k := by
    intro k hk
    obtain ⟨m, hm, rfl⟩ := List.mem_map.1 hk
    exact g.fresh hm
  refine ⟨⟨h.w, ⟨h.chg.os.trans g.chg.os, h.chg.tape.trans g.chg.tape, h.chg.output.trans g.chg.output, Nat.le_trans g.chg.size h.chg.size, fun k hk _ => ?_⟩, h.own, ?_, h.dist, h.sub, ?_⟩, rfl⟩
  · rw [h.chg.block k (Nat.lt_of_lt_of_le hk g.chg.size) (fun hm => by have := mk k hm; omega)]
    exact g.chg.block k hk (by simp)
  · intro m hm
    refine .inl (mk _ ?_)
    rw [← e]
    exact List.mem_map.2 ⟨m, hm, rfl⟩
  · intro f hf k o hk
    refine ⟨.inr (by simp), ?_⟩
    rw [e]
    exact (g.keep f hf k o hk).2
/-- what holds no cells stays -/
theorem G.keeps (g : G w0 [] M I) (h : G g.w (M.map (·.1)) M' I) : KeepsOthers g.w h.w :=
  ⟨h.chg.size, fun k o hk ho => by
    rw [h.chg.block k (Array.getElem?_eq_some_iff.1 hk).1 ?_]
    · exact hk
    · intro hm
      obtain ⟨m, hm2, e⟩ := List.mem_map.1 hm
      have := g.own m hm2
      rw [e, hk] at this
      cases this
      cases ho⟩
end
/-- what was below n₀ stays, and the block Bs -/
structure KeepB (n₀ Bs : Nat) (W W' : World) : Prop where
  old : ∀ k, k < n₀ → W'.heap[k]? = W.heap[k]?
  box : W'.heap[Bs]? = W.heap[Bs]?
theorem KeepB.refl (n₀ Bs : Nat) (W : World) : KeepB n₀ Bs W W := ⟨fun _ _ => rfl, rfl⟩
theorem KeepB.trans {n₀ Bs : Nat} {A B C : World} (h : KeepB n₀ Bs A B) (k : KeepB n₀ Bs B C) : KeepB n₀ Bs A C := ⟨fun i hi => (k.old i hi).trans (h.old i hi), k.box.trans h.box⟩
theorem KeepB.put {n₀ Bs l : Nat} {W : World} {o : Obj} (h : n₀ ≤ l) (hb : Bs ≠ l) : KeepB n₀ Bs W (W.putObj l o) :=
  ⟨fun k hk => World.putObj_heap_other (by omega), World.putObj_heap_other (by omega)⟩
theorem G.keepB {w0 : World} {M M' : List Blk} {Bs : Nat} {o : Obj} (g : G w0 [] M [blkF Bs o, heapOf w0]) {w1 : World} {X : List Nat} (h : G w1 X M' [blkF Bs o, heapOf w0]) : KeepB w0.heap.size Bs g.w h.w := by
  have hb : ∀ k o', blkF Bs o k = some o' → h.w.heap[k]? = g.w.heap[k]? := fun k o' hk => (h.sub _ (by simp) k o' hk).trans (g.sub _ (by simp) k o' hk).symm
  refine ⟨fun k hk => ?_, hb Bs o (by simp [blkF])⟩
  have e : heapOf w0 k = some w0.heap[k] := Array.getElem?_eq_getElem hk
  exact (h.sub (heapOf w0) (by simp) k _ e).trans (g.sub (heapOf w0) (by simp) k _ e).symm
/-- behind the end of a function that collected deferred calls -/
theorem New.put {w0 W : World} {F : Frag} {D : Nat} {o o' : Obj} (h : New w0 W F) (hd : W.heap[D]? = some o) (ho : o.isCells = false) (hD : w0.heap.size ≤ D) (hF : ∀ k o, F k = some o → o.isCells = true) : New w0 (W.putObj D o') F :=
  ⟨h.below.grown (grownBy_putObj' W D o') (by have := (Array.getElem?_eq_some_iff.1 hd).1; omega) (fun k e => by cases e; exact hD), fun k o2 hk => by
    rw [World.putObj_heap_other (fun e => by
      subst e
      have := h.sub _ _ hk
      rw [hd] at this
      cases this
      rw [hF _ _ hk] at ho; cases ho)]
    exact h.sub k o2 hk, h.new⟩
end Go.Proofs.YtjdnpkicdmapnaaGreatDoor.GW
namespace Go.Proofs.YtjdnpkicdmapnaaGreatDoor.GW
open Go
open Go.RowKit
/-- a block that nobody writes any more -/
theorem G.fix {w0 : World} {M : List Blk} {I : List Frag} {b : Nat} {T : TypeId} {cs : List Value} (g : G w0 [] ((b, T, cs) :: M) I) : ∃ g' : G w0 [] M (blkF b (.cells cs.toArray T (0, 0)) :: I), g.w = g'.w := by
  have hd := g.dist
  rw [List.map_cons, List.nodup_cons] at hd
  refine ⟨⟨g.w, g.chg, fun m hm => g.own m (List.mem_cons_of_mem _ hm), fun m hm => g.may m (List.mem_cons_of_mem _ hm), hd.2, ?_, ?_⟩, rfl⟩
  · intro f hf
    rcases List.mem_cons.1 hf with rfl | hf
    · exact blkF_sub g.blk0
    · exact g.sub f hf
  · intro f hf k o hk
    refine ⟨.inr (by simp), ?_⟩
    rcases List.mem_cons.1 hf with rfl | hf
    · rw [blkF_at hk]; exact hd.1
    · exact fun hm => (g.keep f hf k o hk).2 (by rw [List.map_cons]; exact List.mem_cons_of_mem _ hm)
/-- a block that holds no cells -/
theorem G.seeD {w0 : World} {M : List Blk} {I : List Frag} (g : G w0 [] M I) {D : Nat} {o : Obj} (h : g.w.heap[D]? = some o) (ho : o.isCells = false) : ∃ g' : G w0 [] M (blkF D o :: I), g.w = g'.w :=
  ⟨g.see (blkF D o) (blkF_sub h) fun k o' hk => ⟨.inr (by simp), fun hm => by
    obtain ⟨m, hm2, e⟩ := List.mem_map.1 hm
    have := g.own m hm2
    rw [e, blkF_at hk, h] at this
    cases this
    cases ho⟩, rfl⟩
end Go.Proofs.YtjdnpkicdmapnaaGreatDoor.GW
namespace Go.Proofs.YtjdnpkicdmapnaaGreatDoor.GW
open Go
theorem G.at_rebase {w0 : World} {M : List Blk} {I : List Frag} {p : World → Prop} (g : G w0 [] M I) (hp : ∀ h : G g.w (M.map (·.1)) M I, p h.w) : p g.w := by
  obtain ⟨h, e⟩ := g.rebase
  exact e ▸ hp h
end Go.Proofs.YtjdnpkicdmapnaaGreatDoor.GW
namespace Go.Proofs.YtjdnpkicdmapnaaGreatDoor.GW
open Go
open Go.RowKit NL
/-- F lies in w', and what of it is not new was in F0 -/
structure NewOr (F0 : Frag) (w w' : World) (F : Frag) : Prop where
  below : Below w.heap.size w w'
  sub : F.sub w'
  new : ∀ k o, F k = some o → F0 k = some o ∨ w.heap.size ≤ k
theorem New.or {w w' : World} {F : Frag} (h : New w w' F) (F0 : Frag) : NewOr F0 w w' F := ⟨h.below, h.sub, fun k o hk => .inr (h.new k o hk)⟩
/-- F is made of F0 and of what is new since w0 -/
def Frag.over (F F0 : Frag) (w0 : World) : Prop := ∀ k o, F k = some o → F0 k = some o ∨ w0.heap.size ≤ k
theorem Frag.over_self (F : Frag) (w0 : World) : F.over F w0 := fun _ _ h => .inl h
theorem New.over {w0 w w' : World} {F : Frag} (h : New w w' F) (F0 : Frag) (hs : w0.heap.size ≤ w.heap.size) : F.over F0 w0 := fun k o hk => .inr (Nat.le_trans hs (h.new k o hk))
section
variable {w0 : World} {M : List Blk} {I : List Frag} {F0 : Frag}
/-- all that stays, of F0 and of what is new -/
def G.fr (g : G w0 [] M I) (F0 : Frag) : Frag := fun k => if k ∈ M.map (·.1) then Option.none else if k < w0.heap.size then F0 k else g.w.heap[k]?
theorem G.fr_sub (g : G w0 [] M I) (h : F0 ∈ I) : (g.fr F0).sub g.w := by
  intro k o hk
  unfold G.fr at hk
  split at hk
  · cases hk
  · split at hk
    · exact g.sub _ h _ _ hk
    · exact hk
theorem G.fr_of (g : G w0 [] M I) {F : Frag} (hF : F ∈ I) (hn : F.over F0 w0) : ∀ k o, F k = some o → g.fr F0 k = some o := by
  intro k o hk
  unfold G.fr
  rw [if_neg (g.keep F hF k o hk).2]
  split
  · next hlt =>
    rcases hn k o hk with h | h
    · exact h
    · omega
  · exact g.sub F hF k o hk
theorem G.fr_sl (g : G w0 [] M I) {F : Frag} (hF : F ∈ I) (hn : F.over F0 w0) {A : Option Addr} {c : Nat} {l : List Nat} (h : F.Sl A c l) : (g.fr F0).Sl A c l := h.mono (g.fr_of hF hn)
theorem G.newor_ex (g : G w0 [] M I) {w1 : World} {F : Frag} (h : NewOr (g.fr F0) g.w w1 F) : ∃ g' : G w0 [] M (F :: I), w1 = g'.w ∧ F.over F0 w0 := by
  refine ⟨(g.call h.below).see F h.sub fun k o hk => ⟨.inr (by simp), fun hm => ?_⟩, rfl, ?_⟩
  · rcases h.new k o hk with h1 | h1
    · unfold G.fr at h1
      rw [if_pos hm] at h1; cases h1
    · obtain ⟨m, hm2, e⟩ := List.mem_map.1 hm
      have := g.lt hm2
      omega
  · intro k o hk
    rcases h.new k o hk with h1 | h1
    · unfold G.fr at h1
      split at h1
      · cases h1
      · split at h1
        · exact .inl h1
        · next hge => exact .inr (by omega)
    · exact .inr (Nat.le_trans g.chg.size h1)
theorem G.newo_ex (g : G w0 [] M I) {w1 : World} {F : Frag} (F0 : Frag) (h : New g.w w1 F) : ∃ g' : G w0 [] M (F :: I), w1 = g'.w ∧ F.over F0 w0 := by
  obtain ⟨g', e⟩ := g.new_ex h
  exact ⟨g', e, h.over F0 g.chg.size⟩
theorem G.passOr (g : G w0 [] M I) {F : Frag} (hF : F ∈ I) (hn : F.over F0 w0) : NewOr F0 w0 g.w F := ⟨g.below, g.sub F hF, hn⟩
theorem G.giveOr (g : G w0 [] M I) {b : Nat} {T : TypeId} {cs : List Value} (h : (b, T, cs) ∈ M) : NewOr F0 w0 g.w (blkF b (.cells cs.toArray T (0, 0))) := (g.give h).or F0
theorem G.noneOr (g : G w0 [] M I) : NewOr F0 w0 g.w (fun _ => Option.none) := g.none.or F0
end
theorem Frag.none_over (F0 : Frag) (w0 : World) : Frag.over (fun _ => Option.none) F0 w0 := by intro k o h; cases h
/-- the beginning of a walk: a part of memory -/
def G.beginF (w : World) (F0 : Frag) (h : F0.sub w) : G w [] [] [F0] :=
  ⟨w, Chg.refl _ w, by simp, by simp, by simp, by intro f hf; rw [List.mem_singleton.1 hf]; exact h, by intro f hf k o hk; exact ⟨.inr (by simp), by simp⟩⟩
theorem calls_f {P : Program} {f : FuncId} {args : Array Value} {w : World} {R : Ending → World → Prop} {F0 : Frag} (hF : F0.sub w) (h : ∀ g : G w [] [] [F0], Calls P f args g.w R) : Calls P f args w R := h (G.beginF w F0 hF)
/-- What is returned is the number n, in new memory or in F0. -/
def RAli (F0 : Frag) (n : Nat) (w : World) (e : Ending) (w' : World) : Prop := ∃ A c F, e = .returned (.slice A (limbs n).length c) ∧ F.Sl A c (limbs n) ∧ NewOr F0 w w' F
theorem RNat.ali {n : Nat} {w : World} {e : Ending} {w' : World} (h : RNat n w e w') (F0 : Frag) : RAli F0 n w e w' := by
  obtain ⟨A, c, F, he, hs, hn⟩ := h
  exact ⟨A, c, F, he, hs, hn.or F0⟩
end Go.Proofs.YtjdnpkicdmapnaaGreatDoor.GW
