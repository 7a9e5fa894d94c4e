/- Plain facts and contracts of functions of the program, out of walks. Their conditions stand ahead of each. -/
import Derived.Test.YtcaaecmbbbdopaaDs7
import Derived.Below
import Derived.Deep.Draws
import Derived.Deep.RegionHeld
import Derived.Laws.CopyOwn
import Derived.Laws.NewBlocks
import Derived.Laws.OwnMore
import Derived.Laws.Rows
import Derived.Lib.BitFns
import Derived.Lib.ItoaNum
import Derived.Maps.AppendAt
import Derived.OrdersHeld
import Derived.WalkKit
set_option linter.unusedVariables false
set_option linter.unusedSimpArgs false
namespace Go.Proofs.Ytcaaecmbbbdopaa.GW
open Go
open Go
def missing (l : Array Bool) : Nat := l.toList.count false
theorem count_set_false : ∀ (l : List Bool) (i : Nat), l[i]? = some false → (l.set i true).count false + 1 = l.count false
  | [], i, h => by simp at h
  | b :: l, 0, h => by
    have : b = false := by simpa using h
    subst this
    simp
  | b :: l, i + 1, h => by
    have := count_set_false l i (by simpa using h)
    cases b <;> simp [List.count_cons, List.set_cons_succ] <;> omega
theorem missing_set {l : Array Bool} {i : Nat} (h : l.getD i true = false) : missing (l.setIfInBounds i true) + 1 = missing l := by
  unfold missing
  rw [Array.toList_setIfInBounds]
  refine count_set_false _ _ ?_
  rw [Array.getElem?_toList]
  rw [Array.getD_eq_getD_getElem?] at h
  cases e : l[i]? with
  | none => rw [e] at h; simp at h
  | some b => rw [e] at h; simp at h; rw [h]
theorem missing_zero : ∀ {l : Array Bool}, missing l = 0 → ∀ i, l.getD i true = true := by
  intro l h i
  rw [Array.getD_eq_getD_getElem?]
  cases e : l[i]? with
  | none => rfl
  | some b =>
    cases b with
    | true => rfl
    | false =>
      exfalso
      unfold missing at h
      rw [List.count_eq_zero] at h
      exact h (Array.mem_toList_iff.2 (Array.mem_of_getElem? e))
section
variable {P : Program} {ops : Array Oper} {Q : Exit → Act → World → Prop} {md : Region.Mode} {S : World → Prop}
/-- On which operations (of those whose edges bind) operation i waits. -/
def depsOf (md : Region.Mode) (ops : Array Oper) (i : Nat) : List Nat := match ops[i]? with
  | some o => (o.after.toList.filter (Region.binds md)).map (·.on)
  | none => []
theorem ready_deps {l : Array Bool} {i j : Nat} (hi : i ∈ Region.ready md ops l) (hj : j ∈ depsOf md ops i) : l.getD j false = true := by
  obtain ⟨_, o, ho, h⟩ := mem_ready.1 hi
  unfold depsOf at hj
  rw [ho] at hj
  simp only [List.mem_map, List.mem_filter] at hj
  obtain ⟨e, ⟨he, hb⟩, rfl⟩ := hj
  exact h e (by simpa using he) hb
theorem first_false : ∀ {n : Nat} {l : Array Bool}, l.getD n true = false → ∃ i, i ≤ n ∧ l.getD i true = false ∧ ∀ j < i, l.getD j true = true
  | 0, l, h => ⟨0, Nat.le_refl _, h, fun j hj => absurd hj (Nat.not_lt_zero _)⟩
  | n + 1, l, h => by
    by_cases hx : ∃ m, m ≤ n ∧ l.getD m true = false
    · obtain ⟨m, hm, hm2⟩ := hx
      obtain ⟨i, h1, h2, h3⟩ := first_false_le n m hm hm2
      exact ⟨i, by omega, h2, h3⟩
    · refine ⟨n + 1, Nat.le_refl _, h, fun j hj => ?_⟩
      cases e : l.getD j true with
      | true => rfl
      | false => exact absurd ⟨j, by omega, e⟩ hx
where
  first_false_le (n : Nat) : ∀ m, m ≤ n → ∀ {l : Array Bool}, l.getD m true = false → ∃ i, i ≤ m ∧ l.getD i true = false ∧ ∀ j < i, l.getD j true = true := by
    intro m hm l h
    induction m using Nat.strongRecOn with
    | ind m ih =>
      by_cases hx : ∃ k, k < m ∧ l.getD k true = false
      · obtain ⟨k, hk, hk2⟩ := hx
        obtain ⟨i, h1, h2, h3⟩ := ih k hk (by omega) hk2
        exact ⟨i, by omega, h2, h3⟩
      · refine ⟨m, Nat.le_refl _, h, fun j hj => ?_⟩
        cases e : l.getD j true with
        | true => rfl
        | false => exact absurd ⟨j, hj, e⟩ hx
theorem ready_ne {l : Array Bool} (hsz : l.size = ops.size) (hdag : ∀ i < ops.size, ∀ j ∈ depsOf md ops i, j < i) (h : 0 < missing l) : Region.ready md ops l ≠ [] := by
  have hex : ∃ n, l.getD n true = false := by
    unfold missing at h
    rw [List.count_pos_iff] at h
    obtain ⟨n, hn⟩ := List.getElem?_of_mem h
    refine ⟨n, ?_⟩
    rw [Array.getD_eq_getD_getElem?, ← Array.getElem?_toList, hn]
    rfl
  obtain ⟨n, hn⟩ := hex
  obtain ⟨i, _, h2, h3⟩ := first_false hn
  have hlt : i < ops.size := by
    rw [← hsz]
    rcases Nat.lt_or_ge i l.size with k | k
    · exact k
    · rw [Array.getD_eq_getD_getElem?, Array.getElem?_eq_none k] at h2
      cases h2
  have : i ∈ Region.ready md ops l := by
    refine mem_ready.2 ⟨h2, ops[i], Array.getElem?_eq_getElem hlt, fun e he hb => ?_⟩
    have hj : e.on < i := hdag i hlt e.on (by
      unfold depsOf
      rw [Array.getElem?_eq_getElem hlt]
      simp only [List.mem_map, List.mem_filter]
      exact ⟨e, ⟨by simpa using he, hb⟩, rfl⟩)
    have h4 := h3 e.on hj
    have hjl : e.on < l.size := by omega
    rw [Array.getD_eq_getD_getElem?, Array.getElem?_eq_getElem hjl] at h4 ⊢
    exact h4
  intro h0
  rw [h0] at this
  cases this
/-- States that are alike are walked once: I says what is known after some operations have come up (l); D: some of the pairs (operation, one that it waits for). -/
theorem wpAnyH_inv {I : Array Bool → Act → World → Prop} (D : List (Nat × Nat)) (hD : ∀ p ∈ D, p.2 ∈ depsOf md ops p.1) (hdag : ∀ i < ops.size, ∀ j ∈ depsOf md ops i, j < i)
    (hS : ∀ l a w, I l a w → S w)
    (hexit : ∀ fuel l a w, I l a w → missing l ≤ 0 → wpAnyH P md ops Q S fuel l a w)
    (hstep : ∀ l a w, I l a w → ∀ i, i < ops.size → l.getD i true = false → (∀ j, (i, j) ∈ D → l.getD j false = true) → ∃ o, ops[i]? = some o ∧ ∀ K' : Act → World → Prop, Shut (∀ a' w', I (l.setIfInBounds i true) a' w' → K' a' w') →
      if Region.wanted o (yielded ops a.tmps) = true then Oper.wp P o a w K' Q else K' (a.put o.dst undef) w) :
    ∀ (fuel : Nat) (l : Array Bool) (a : Act) (w : World), l.size = ops.size → missing l ≤ fuel → I l a w → wpAnyH P md ops Q S fuel l a w
  | 0, l, a, w, hz, hf, h => hexit 0 l a w h hf
  | fuel + 1, l, a, w, hz, hf, h => by
    by_cases hn : missing l ≤ 0
    · exact hexit _ l a w h hn
    have hn' : 0 < missing l := by omega
    refine ⟨fun h0 => absurd h0 (ready_ne hz hdag hn'), fun i hi => ?_⟩
    obtain ⟨hl, o', ho', _⟩ := mem_ready.1 hi
    have hlt : i < ops.size := (Array.getElem?_eq_some_iff.1 ho').1
    obtain ⟨o, ho, hst⟩ := hstep l a w h i hlt hl (fun j hj => ready_deps hi (hD (i, j) hj))
    refine wpOp_step ho (fun K' hK => ?_)
    refine hst K' (fun a' w' hI => hK a' w' ⟨hS _ _ _ hI, ?_⟩)
    refine wpAnyH_inv D hD hdag hS hexit hstep fuel _ a' w' (by simpa using hz) ?_ hI
    have := missing_set hl
    omega
/-- The frame, named. -/
theorem wpAnyH_act {fuel : Nat} {l : Array Bool} {a : Act} {w : World} (h : ∀ A, A = a → wpAnyH P md ops Q S fuel l A w) : wpAnyH P md ops Q S fuel l a w := h a rfl
end
theorem G.cell_mem {w0 : World} {X : List Nat} {M : List Blk} {I : List Frag} (g : G w0 X M I) {b : Nat} {T : TypeId} {cs : List Value} (h : (b, T, cs) ∈ M) (i : Nat) : g.w.cell? ⟨b, i, Option.none⟩ = cs[i]? := by
  obtain ⟨n, hn⟩ := List.getElem?_of_mem h
  exact g.cell_n hn i
def cont : Bool → Int → Int → Int → List Value
  | true, a, b, c => [.int .i64 a, .int .i64 b, .int .i64 c]
  | false, _, _, _ => [.int .i64 0, .int .i64 0, .int .i64 0]
theorem pmid {α : Type} (a : α) (l m : List α) : (a :: (l ++ m)).Perm (l ++ (a :: m)) := List.perm_middle.symm
theorem pmid2 {α : Type} (a : α) (l m n : List α) : (a :: (l ++ (m ++ n))).Perm (l ++ (m ++ (a :: n))) := by
  rw [← List.append_assoc, ← List.append_assoc]
  exact List.perm_middle.symm
end Go.Proofs.Ytcaaecmbbbdopaa.GW
