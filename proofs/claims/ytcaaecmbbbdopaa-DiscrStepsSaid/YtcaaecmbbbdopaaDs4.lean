/- Plain facts and contracts of functions of the program, out of walks. Their conditions stand ahead of each. -/
import Derived.Test.YtcaaecmbbbdopaaDs1
import Derived.Below
import Derived.Deep.Draws
import Derived.Laws.NewBlocks
import Derived.Laws.OwnMore
import Derived.Laws.Rows
import Derived.WalkKit
set_option linter.unusedVariables false
set_option linter.unusedSimpArgs false
namespace Go.Proofs.Ytcaaecmbbbdopaa.GW
open Go
open Go.RowKit
/-- A part of memory. -/
def Frag := Nat → Option Obj
def Frag.sub (f : Frag) (w : World) : Prop := ∀ k o, f k = some o → w.heap[k]? = some o
def Frag.cell (f : Frag) (a : Addr) : Option Value :=
  match f a.block with
  | some (.cells c _ _) => if a.spot.isSome then none else c[a.off]?
  | _ => none
/-- Apart from the blocks named in X, what was there is as it was. -/
structure Chg (X : List Nat) (w w' : World) : Prop where
  os : w'.os = w.os
  tape : w'.tape = w.tape
  output : w'.output = w.output
  size : w.heap.size ≤ w'.heap.size
  block : ∀ k, k < w.heap.size → k ∉ X → w'.heap[k]? = w.heap[k]?
theorem Chg.refl (X : List Nat) (w : World) : Chg X w w := ⟨rfl, rfl, rfl, Nat.le_refl _, fun _ _ _ => rfl⟩
theorem Chg.trans {X : List Nat} {a b c : World} (h : Chg X a b) (k : Chg X b c) : Chg X a c :=
  ⟨k.os.trans h.os, k.tape.trans h.tape, k.output.trans h.output, Nat.le_trans h.size k.size, fun i hi hx => (k.block i (Nat.lt_of_lt_of_le hi h.size) hx).trans (h.block i hi hx)⟩
theorem Chg.of_below {w w' : World} (h : Below w.heap.size w w') : Chg [] w w' := ⟨h.os, h.tape, h.output, h.size, fun k hk _ => h.block k hk⟩
theorem Chg.below {w w' : World} (h : Chg [] w w') : Below w.heap.size w w' := ⟨h.os, h.tape, h.output, h.size, fun k hk => h.block k hk (by simp)⟩
abbrev Blk := Nat × TypeId × List Value
/-- The world of a walk: X: the blocks of the caller's that may be written; M: the blocks that the call owns; I: parts that stay. -/
structure G (w0 : World) (X : List Nat) (M : List Blk) (I : List Frag) where
  w : World
  chg : Chg X w0 w
  own : ∀ m ∈ M, w.heap[m.1]? = some (.cells m.2.2.toArray m.2.1 (0, 0))
  may : ∀ m ∈ M, w0.heap.size ≤ m.1 ∨ m.1 ∈ X
  dist : (M.map (·.1)).Nodup
  sub : ∀ f ∈ I, f.sub w
  keep : ∀ f ∈ I, ∀ k o, f k = some o → (w0.heap.size ≤ k ∨ k ∉ X) ∧ k ∉ M.map (·.1)
section
variable {w0 : World} {X : List Nat} {M : List Blk} {I : List Frag}
theorem G.any {p : World → Prop} (g : G w0 X M I) (h : ∀ g' : G w0 X M I, p g'.w) : p g.w := h g
/-- the beginning of a walk -/
def G.start (w : World) : G w [] [] [] :=
  ⟨w, Chg.refl _ w, by simp, by simp, by simp, by simp, by simp⟩
/-- a part that is there, and that nobody writes -/
def G.see (g : G w0 X M I) (f : Frag) (h : f.sub g.w) (hk : ∀ k o, f k = some o → (w0.heap.size ≤ k ∨ k ∉ X) ∧ k ∉ M.map (·.1)) : G w0 X M (f :: I) :=
  ⟨g.w, g.chg, g.own, g.may, g.dist, by intro f' hf; rcases List.mem_cons.1 hf with rfl | hf; exact h; exact g.sub f' hf,
    by intro f' hf; rcases List.mem_cons.1 hf with rfl | hf; exact hk; exact g.keep f' hf⟩
theorem G.lt (g : G w0 X M I) {m : Blk} (h : m ∈ M) : m.1 < g.w.heap.size := by
  have := g.own m h
  rcases Nat.lt_or_ge m.1 g.w.heap.size with hlt | hge
  · exact hlt
  · rw [Array.getElem?_eq_none hge] at this; cases this
theorem Frag.lt {f : Frag} {w : World} (h : f.sub w) {k : Nat} {o : Obj} (hk : f k = some o) : k < w.heap.size := by
  have := h k o hk
  rcases Nat.lt_or_ge k w.heap.size with hlt | hge
  · exact hlt
  · rw [Array.getElem?_eq_none hge] at this; cases this
theorem Chg.alloc {X : List Nat} {a w : World} (h : Chg X a w) (o : Obj) : Chg X a (w.alloc o) :=
  h.trans ⟨rfl, rfl, rfl, by simp, fun k hk _ => Below.heap_alloc _ _ _ hk⟩
theorem Chg.setCell {X : List Nat} {a w : World} (h : Chg X a w) {p : Addr} (hp : a.heap.size ≤ p.block ∨ p.block ∈ X) (u : Value) : Chg X a (w.setCell p u) :=
  ⟨h.os, h.tape, h.output, by have := h.size; simpa [World.setCell] using this, fun k hk hx => by
    rw [Below.heap_setCell _ _ _ _ (by rintro rfl; rcases hp with hp | hp; omega; exact hx hp)]
    exact h.block k hk hx⟩
theorem Frag.sub_alloc {f : Frag} {w : World} (h : f.sub w) (o : Obj) : f.sub (w.alloc o) := fun k o' hk => by
  rw [Below.heap_alloc _ _ _ (Frag.lt h hk)]; exact h k o' hk
/-- a new block -/
def G.new (g : G w0 X M I) (cs : List Value) (T : TypeId) : G w0 X ((g.w.heap.size, T, cs) :: M) I :=
  ⟨g.w.alloc (.cells cs.toArray T), g.chg.alloc _,
    by
      intro m hm
      rcases List.mem_cons.1 hm with rfl | hm
      · exact heap_alloc_new g.w _
      · rw [Below.heap_alloc _ _ _ (g.lt hm)]; exact g.own m hm,
    by
      intro m hm
      rcases List.mem_cons.1 hm with rfl | hm
      · exact .inl g.chg.size
      · exact g.may m hm,
    by
      rw [List.map_cons, List.nodup_cons]
      refine ⟨?_, g.dist⟩
      intro hm
      obtain ⟨m, hm, e⟩ := List.mem_map.1 hm
      have := g.lt hm
      simp only at e
      omega,
    fun f hf => Frag.sub_alloc (g.sub f hf) _,
    by
      intro f hf k o hk
      obtain ⟨h1, h2⟩ := g.keep f hf k o hk
      refine ⟨h1, ?_⟩
      rw [List.map_cons, List.mem_cons]
      rintro (e | e)
      · have := Frag.lt (g.sub f hf) hk
        simp only at e
        omega
      · exact h2 e⟩
/-- a mark on a world that is to be named anew -/
def G.mark (g : G w0 X M I) : G w0 X M I := g
theorem G.any_mark {p : World → Prop} (g : G w0 X M I) (h : ∀ g' : G w0 X M I, p g'.w) : p g.mark.w := h _
@[go_sem] theorem G.alloc_eq (g : G w0 X M I) (cs : List Value) (T : TypeId) : g.w.alloc (.cells cs.toArray T (0, 0)) = (g.new cs T).mark.w := rfl
@[go_sem] theorem G.alloc_eq' (g : G w0 X M I) (n : Nat) (v : Value) (T : TypeId) : g.w.alloc (.cells (Array.replicate n v) T (0, 0)) = (g.new (List.replicate n v) T).mark.w := by
  rw [← List.toArray_replicate]; rfl
/-- a draw -/
def G.dr (g : G w0 X M I) (n : Nat) : G w0 X M I :=
  ⟨g.w.drewN n, ⟨g.chg.os, g.chg.tape, g.chg.output, g.chg.size, g.chg.block⟩, g.own, g.may, g.dist, g.sub, g.keep⟩
@[go_sem] theorem G.drew_eq (g : G w0 X M I) : g.w.drew = (g.dr 1).mark.w := rfl
@[go_sem] theorem G.drewN_eq (g : G w0 X M I) (n : Nat) : g.w.drewN n = (g.dr n).mark.w := rfl
theorem set_nth {b : Nat} {T : TypeId} {cs cs' : List Value} : ∀ {M : List Blk} {n : Nat}, M[n]? = some (b, T, cs) → (M.set n (b, T, cs')).map (·.1) = M.map (·.1) := by
  intro M
  induction M with
  | nil => intro n h; simp at h
  | cons m M ih =>
    intro n h
    cases n with
    | zero => simp at h; subst h; rfl
    | succ n => simp at h; simp [ih h]
theorem mem_set {α : Type} {x a : α} : ∀ {l : List α} {n : Nat}, x ∈ l.set n a → x = a ∨ ∃ m, m ≠ n ∧ l[m]? = some x := by
  intro l
  induction l with
  | nil => intro n h; simp at h
  | cons y l ih =>
    intro n h
    cases n with
    | zero =>
      simp at h
      rcases h with h | h
      · exact .inl h
      · obtain ⟨m, hm⟩ := List.getElem?_of_mem h
        exact .inr ⟨m + 1, by omega, by simpa using hm⟩
    | succ n =>
      simp at h
      rcases h with h | h
      · exact .inr ⟨0, by omega, by simp [h]⟩
      · rcases ih h with h | ⟨m, h1, h2⟩
        · exact .inl h
        · exact .inr ⟨m + 1, by omega, by simpa using h2⟩
theorem dist_ne {M : List Blk} (hd : (M.map (·.1)).Nodup) {i j : Nat} {x y : Blk} (hi : M[i]? = some x) (hj : M[j]? = some y) (hne : i ≠ j) : x.1 ≠ y.1 := by
  intro e
  have h1 : (M.map (·.1))[i]? = some x.1 := by simp [hi]
  have h2 : (M.map (·.1))[j]? = some x.1 := by simp [hj, e]
  have hl : i < (M.map (·.1)).length := by
    rcases Nat.lt_or_ge i (M.map (·.1)).length with h | h
    · exact h
    · rw [List.getElem?_eq_none h] at h1; cases h1
  exact hne ((List.getElem?_inj hl hd).1 (h1.trans h2.symm))
/-- block n has become another -/
def G.turn (g : G w0 X M I) (n : Nat) {b : Nat} {T : TypeId} {cs : List Value} (hn : M[n]? = some (b, T, cs)) (cs' : List Value) (w' : World)
    (hc : Chg X w0 w') (hh : w'.heap[b]? = some (.cells cs'.toArray T (0, 0))) (ho : ∀ k, k < g.w.heap.size → k ≠ b → w'.heap[k]? = g.w.heap[k]?) : G w0 X (M.set n (b, T, cs')) I :=
  ⟨w', hc,
    by
      intro m hm
      rcases mem_set hm with rfl | ⟨j, hj, hm⟩
      · exact hh
      · have hm' := List.mem_of_getElem? hm
        rw [ho _ (g.lt hm') (dist_ne g.dist hm hn hj)]
        exact g.own m hm',
    by
      intro m hm
      rcases mem_set hm with rfl | ⟨j, hj, hm⟩
      · exact g.may (b, T, cs) (List.mem_of_getElem? hn)
      · exact g.may _ (List.mem_of_getElem? hm),
    by rw [set_nth hn]; exact g.dist,
    by
      intro f hf k o hk
      have hne : k ≠ b := by
        rintro rfl
        exact (g.keep f hf k o hk).2 (List.mem_map.2 ⟨_, List.mem_of_getElem? hn, rfl⟩)
      rw [ho k (Frag.lt (g.sub f hf) hk) hne]
      exact g.sub f hf k o hk,
    by rw [set_nth hn]; exact g.keep⟩
def G.st (g : G w0 X M I) (n : Nat) {b : Nat} {T : TypeId} {cs : List Value} (hn : M[n]? = some (b, T, cs)) (i : Nat) (v : Value) : G w0 X (M.set n (b, T, cs.set i v)) I :=
  g.turn n hn _ (g.w.setCell ⟨b, i, none⟩ v) (g.chg.setCell (g.may _ (List.mem_of_getElem? hn)) v)
    (by
      have := g.own _ (List.mem_of_getElem? hn)
      simp only at this
      simp [World.setCell, Array.getElem?_modify, this])
    (fun k _ hk => Below.heap_setCell _ _ _ _ hk)
theorem G.cell_n (g : G w0 X M I) {n : Nat} {b : Nat} {T : TypeId} {cs : List Value} (hn : M[n]? = some (b, T, cs)) (i : Nat) : g.w.cell? ⟨b, i, none⟩ = cs[i]? :=
  (cell_of_row g.w b i cs.toArray T (0, 0) (g.own _ (List.mem_of_getElem? hn))).trans (by simp)
theorem G.frozen_n (g : G w0 X M I) {n : Nat} {b : Nat} {T : TypeId} {cs : List Value} (hn : M[n]? = some (b, T, cs)) (i : Nat) : g.w.frozen? ⟨b, i, none⟩ = false := by
  have := g.own _ (List.mem_of_getElem? hn)
  simp only at this
  simp [World.frozen?, this]
/-- a call that leaves what was there -/
def G.call (g : G w0 X M I) {w1 : World} (h : Below g.w.heap.size g.w w1) : G w0 X M I :=
  ⟨w1, g.chg.trans ⟨h.os, h.tape, h.output, h.size, fun k hk _ => h.block k hk⟩,
    fun m hm => (h.block _ (g.lt hm)).trans (g.own m hm), g.may, g.dist,
    fun f hf k o hk => (h.block _ (Frag.lt (g.sub f hf) hk)).trans (g.sub f hf k o hk), g.keep⟩
theorem G.call_ex (g : G w0 X M I) {w1 : World} (h : Below g.w.heap.size g.w w1) : ∃ g' : G w0 X M I, w1 = g'.w := ⟨g.call h, rfl⟩
/-- a call that leaves what was there, and makes a part that stays -/
theorem G.part_ex (g : G w0 X M I) {w1 : World} {f : Frag} (h : Below g.w.heap.size g.w w1) (hf : f.sub w1) (hn : ∀ k o, f k = some o → g.w.heap.size ≤ k) : ∃ g' : G w0 X M (f :: I), w1 = g'.w :=
  ⟨(g.call h).see f hf fun k o hk => ⟨.inl (Nat.le_trans g.chg.size (hn k o hk)), fun hm => by
    obtain ⟨m, hm, e⟩ := List.mem_map.1 hm
    have := g.lt hm
    have := hn k o hk
    omega⟩, rfl⟩
/-- a call that turns one of the blocks that the caller owns -/
theorem G.mut_ex (g : G w0 X M I) (n : Nat) {b : Nat} {T : TypeId} {cs cs' : List Value} {w1 : World} (hn : M[n]? = some (b, T, cs)) (h : Chg [b] g.w w1) (hh : w1.heap[b]? = some (.cells cs'.toArray T (0, 0))) :
    ∃ g' : G w0 X (M.set n (b, T, cs')) I, w1 = g'.w :=
  ⟨g.turn n hn cs' w1 ⟨h.os.trans g.chg.os, h.tape.trans g.chg.tape, h.output.trans g.chg.output, Nat.le_trans g.chg.size h.size, fun k hk hx => by
      rw [h.block k (Nat.lt_of_lt_of_le hk g.chg.size) (by
        intro hm
        obtain rfl : k = b := by simpa using hm
        rcases g.may _ (List.mem_of_getElem? hn) with h1 | h1
        · simp only at h1; omega
        · exact hx h1)]
      exact g.chg.block k hk hx⟩ hh (fun k hk hne => h.block k hk (by simpa using hne)), rfl⟩
theorem G.below (g : G w0 [] M I) : Below w0.heap.size w0 g.w := g.chg.below
theorem G.frag_cell (g : G w0 X M I) {f : Frag} (hf : f ∈ I) {a : Addr} {v : Value} (h : f.cell a = some v) : g.w.cell? a = some v := by
  unfold Frag.cell at h
  unfold World.cell?
  cases hk : f a.block with
  | none => rw [hk] at h; cases h
  | some o => rw [hk] at h; rw [g.sub f hf _ _ hk]; exact h
end
section
variable {w0 : World} {X : List Nat} {I : List Frag}
def G.st0 {b : Nat} {T : TypeId} {cs : List Value} {M : List Blk} (g : G w0 X ((b, T, cs) :: M) I) (i : Nat) (v : Value) : G w0 X ((b, T, cs.set i v) :: M) I := g.st 0 (cs := cs) rfl i v
@[go_sem] theorem G.cell0 {b : Nat} {T : TypeId} {cs : List Value} {M : List Blk} (g : G w0 X ((b, T, cs) :: M) I) (i : Nat) : g.w.cell? ⟨b, i, none⟩ = cs[i]? := g.cell_n (n := 0) rfl i
@[go_sem] theorem G.frozen0 {b : Nat} {T : TypeId} {cs : List Value} {M : List Blk} (g : G w0 X ((b, T, cs) :: M) I) (i : Nat) : g.w.frozen? ⟨b, i, none⟩ = false := g.frozen_n (n := 0) rfl i
@[go_sem] theorem G.set0 {b : Nat} {T : TypeId} {cs : List Value} {M : List Blk} (g : G w0 X ((b, T, cs) :: M) I) (i : Nat) (v : Value) : g.w.setCell ⟨b, i, none⟩ v = (g.st0 i v).mark.w := rfl
theorem G.blk0 {b : Nat} {T : TypeId} {cs : List Value} {M : List Blk} (g : G w0 X ((b, T, cs) :: M) I) : g.w.heap[b]? = some (.cells cs.toArray T (0, 0)) := g.own (b, T, cs) (List.mem_of_getElem? (i := 0) rfl)
theorem G.mut0 {b : Nat} {T : TypeId} {cs : List Value} {M : List Blk} (g : G w0 X ((b, T, cs) :: M) I) {cs' : List Value} {w1 : World} (h : Chg [b] g.w w1) (hh : w1.heap[b]? = some (.cells cs'.toArray T (0, 0))) : ∃ g' : G w0 X ((b, T, cs') :: M) I, w1 = g'.w := g.mut_ex 0 (cs := cs) rfl h hh
def G.st1 {x0 : Blk} {b : Nat} {T : TypeId} {cs : List Value} {M : List Blk} (g : G w0 X (x0 :: (b, T, cs) :: M) I) (i : Nat) (v : Value) : G w0 X (x0 :: (b, T, cs.set i v) :: M) I := g.st 1 (cs := cs) rfl i v
@[go_sem] theorem G.cell1 {x0 : Blk} {b : Nat} {T : TypeId} {cs : List Value} {M : List Blk} (g : G w0 X (x0 :: (b, T, cs) :: M) I) (i : Nat) : g.w.cell? ⟨b, i, none⟩ = cs[i]? := g.cell_n (n := 1) rfl i
@[go_sem] theorem G.frozen1 {x0 : Blk} {b : Nat} {T : TypeId} {cs : List Value} {M : List Blk} (g : G w0 X (x0 :: (b, T, cs) :: M) I) (i : Nat) : g.w.frozen? ⟨b, i, none⟩ = false := g.frozen_n (n := 1) rfl i
@[go_sem] theorem G.set1 {x0 : Blk} {b : Nat} {T : TypeId} {cs : List Value} {M : List Blk} (g : G w0 X (x0 :: (b, T, cs) :: M) I) (i : Nat) (v : Value) : g.w.setCell ⟨b, i, none⟩ v = (g.st1 i v).mark.w := rfl
theorem G.blk1 {x0 : Blk} {b : Nat} {T : TypeId} {cs : List Value} {M : List Blk} (g : G w0 X (x0 :: (b, T, cs) :: M) I) : g.w.heap[b]? = some (.cells cs.toArray T (0, 0)) := g.own (b, T, cs) (List.mem_of_getElem? (i := 1) rfl)
theorem G.mut1 {x0 : Blk} {b : Nat} {T : TypeId} {cs : List Value} {M : List Blk} (g : G w0 X (x0 :: (b, T, cs) :: M) I) {cs' : List Value} {w1 : World} (h : Chg [b] g.w w1) (hh : w1.heap[b]? = some (.cells cs'.toArray T (0, 0))) : ∃ g' : G w0 X (x0 :: (b, T, cs') :: M) I, w1 = g'.w := g.mut_ex 1 (cs := cs) rfl h hh
def G.st2 {x0 x1 : Blk} {b : Nat} {T : TypeId} {cs : List Value} {M : List Blk} (g : G w0 X (x0 :: x1 :: (b, T, cs) :: M) I) (i : Nat) (v : Value) : G w0 X (x0 :: x1 :: (b, T, cs.set i v) :: M) I := g.st 2 (cs := cs) rfl i v
@[go_sem] theorem G.cell2 {x0 x1 : Blk} {b : Nat} {T : TypeId} {cs : List Value} {M : List Blk} (g : G w0 X (x0 :: x1 :: (b, T, cs) :: M) I) (i : Nat) : g.w.cell? ⟨b, i, none⟩ = cs[i]? := g.cell_n (n := 2) rfl i
@[go_sem] theorem G.frozen2 {x0 x1 : Blk} {b : Nat} {T : TypeId} {cs : List Value} {M : List Blk} (g : G w0 X (x0 :: x1 :: (b, T, cs) :: M) I) (i : Nat) : g.w.frozen? ⟨b, i, none⟩ = false := g.frozen_n (n := 2) rfl i
@[go_sem] theorem G.set2 {x0 x1 : Blk} {b : Nat} {T : TypeId} {cs : List Value} {M : List Blk} (g : G w0 X (x0 :: x1 :: (b, T, cs) :: M) I) (i : Nat) (v : Value) : g.w.setCell ⟨b, i, none⟩ v = (g.st2 i v).mark.w := rfl
theorem G.blk2 {x0 x1 : Blk} {b : Nat} {T : TypeId} {cs : List Value} {M : List Blk} (g : G w0 X (x0 :: x1 :: (b, T, cs) :: M) I) : g.w.heap[b]? = some (.cells cs.toArray T (0, 0)) := g.own (b, T, cs) (List.mem_of_getElem? (i := 2) rfl)
theorem G.mut2 {x0 x1 : Blk} {b : Nat} {T : TypeId} {cs : List Value} {M : List Blk} (g : G w0 X (x0 :: x1 :: (b, T, cs) :: M) I) {cs' : List Value} {w1 : World} (h : Chg [b] g.w w1) (hh : w1.heap[b]? = some (.cells cs'.toArray T (0, 0))) : ∃ g' : G w0 X (x0 :: x1 :: (b, T, cs') :: M) I, w1 = g'.w := g.mut_ex 2 (cs := cs) rfl h hh
def G.st3 {x0 x1 x2 : Blk} {b : Nat} {T : TypeId} {cs : List Value} {M : List Blk} (g : G w0 X (x0 :: x1 :: x2 :: (b, T, cs) :: M) I) (i : Nat) (v : Value) : G w0 X (x0 :: x1 :: x2 :: (b, T, cs.set i v) :: M) I := g.st 3 (cs := cs) rfl i v
@[go_sem] theorem G.cell3 {x0 x1 x2 : Blk} {b : Nat} {T : TypeId} {cs : List Value} {M : List Blk} (g : G w0 X (x0 :: x1 :: x2 :: (b, T, cs) :: M) I) (i : Nat) : g.w.cell? ⟨b, i, none⟩ = cs[i]? := g.cell_n (n := 3) rfl i
@[go_sem] theorem G.frozen3 {x0 x1 x2 : Blk} {b : Nat} {T : TypeId} {cs : List Value} {M : List Blk} (g : G w0 X (x0 :: x1 :: x2 :: (b, T, cs) :: M) I) (i : Nat) : g.w.frozen? ⟨b, i, none⟩ = false := g.frozen_n (n := 3) rfl i
@[go_sem] theorem G.set3 {x0 x1 x2 : Blk} {b : Nat} {T : TypeId} {cs : List Value} {M : List Blk} (g : G w0 X (x0 :: x1 :: x2 :: (b, T, cs) :: M) I) (i : Nat) (v : Value) : g.w.setCell ⟨b, i, none⟩ v = (g.st3 i v).mark.w := rfl
theorem G.blk3 {x0 x1 x2 : Blk} {b : Nat} {T : TypeId} {cs : List Value} {M : List Blk} (g : G w0 X (x0 :: x1 :: x2 :: (b, T, cs) :: M) I) : g.w.heap[b]? = some (.cells cs.toArray T (0, 0)) := g.own (b, T, cs) (List.mem_of_getElem? (i := 3) rfl)
theorem G.mut3 {x0 x1 x2 : Blk} {b : Nat} {T : TypeId} {cs : List Value} {M : List Blk} (g : G w0 X (x0 :: x1 :: x2 :: (b, T, cs) :: M) I) {cs' : List Value} {w1 : World} (h : Chg [b] g.w w1) (hh : w1.heap[b]? = some (.cells cs'.toArray T (0, 0))) : ∃ g' : G w0 X (x0 :: x1 :: x2 :: (b, T, cs') :: M) I, w1 = g'.w := g.mut_ex 3 (cs := cs) rfl h hh
def G.st4 {x0 x1 x2 x3 : Blk} {b : Nat} {T : TypeId} {cs : List Value} {M : List Blk} (g : G w0 X (x0 :: x1 :: x2 :: x3 :: (b, T, cs) :: M) I) (i : Nat) (v : Value) : G w0 X (x0 :: x1 :: x2 :: x3 :: (b, T, cs.set i v) :: M) I := g.st 4 (cs := cs) rfl i v
@[go_sem] theorem G.cell4 {x0 x1 x2 x3 : Blk} {b : Nat} {T : TypeId} {cs : List Value} {M : List Blk} (g : G w0 X (x0 :: x1 :: x2 :: x3 :: (b, T, cs) :: M) I) (i : Nat) : g.w.cell? ⟨b, i, none⟩ = cs[i]? := g.cell_n (n := 4) rfl i
@[go_sem] theorem G.frozen4 {x0 x1 x2 x3 : Blk} {b : Nat} {T : TypeId} {cs : List Value} {M : List Blk} (g : G w0 X (x0 :: x1 :: x2 :: x3 :: (b, T, cs) :: M) I) (i : Nat) : g.w.frozen? ⟨b, i, none⟩ = false := g.frozen_n (n := 4) rfl i
@[go_sem] theorem G.set4 {x0 x1 x2 x3 : Blk} {b : Nat} {T : TypeId} {cs : List Value} {M : List Blk} (g : G w0 X (x0 :: x1 :: x2 :: x3 :: (b, T, cs) :: M) I) (i : Nat) (v : Value) : g.w.setCell ⟨b, i, none⟩ v = (g.st4 i v).mark.w := rfl
theorem G.blk4 {x0 x1 x2 x3 : Blk} {b : Nat} {T : TypeId} {cs : List Value} {M : List Blk} (g : G w0 X (x0 :: x1 :: x2 :: x3 :: (b, T, cs) :: M) I) : g.w.heap[b]? = some (.cells cs.toArray T (0, 0)) := g.own (b, T, cs) (List.mem_of_getElem? (i := 4) rfl)
theorem G.mut4 {x0 x1 x2 x3 : Blk} {b : Nat} {T : TypeId} {cs : List Value} {M : List Blk} (g : G w0 X (x0 :: x1 :: x2 :: x3 :: (b, T, cs) :: M) I) {cs' : List Value} {w1 : World} (h : Chg [b] g.w w1) (hh : w1.heap[b]? = some (.cells cs'.toArray T (0, 0))) : ∃ g' : G w0 X (x0 :: x1 :: x2 :: x3 :: (b, T, cs') :: M) I, w1 = g'.w := g.mut_ex 4 (cs := cs) rfl h hh
def G.st5 {x0 x1 x2 x3 x4 : Blk} {b : Nat} {T : TypeId} {cs : List Value} {M : List Blk} (g : G w0 X (x0 :: x1 :: x2 :: x3 :: x4 :: (b, T, cs) :: M) I) (i : Nat) (v : Value) : G w0 X (x0 :: x1 :: x2 :: x3 :: x4 :: (b, T, cs.set i v) :: M) I := g.st 5 (cs := cs) rfl i v
@[go_sem] theorem G.cell5 {x0 x1 x2 x3 x4 : Blk} {b : Nat} {T : TypeId} {cs : List Value} {M : List Blk} (g : G w0 X (x0 :: x1 :: x2 :: x3 :: x4 :: (b, T, cs) :: M) I) (i : Nat) : g.w.cell? ⟨b, i, none⟩ = cs[i]? := g.cell_n (n := 5) rfl i
@[go_sem] theorem G.frozen5 {x0 x1 x2 x3 x4 : Blk} {b : Nat} {T : TypeId} {cs : List Value} {M : List Blk} (g : G w0 X (x0 :: x1 :: x2 :: x3 :: x4 :: (b, T, cs) :: M) I) (i : Nat) : g.w.frozen? ⟨b, i, none⟩ = false := g.frozen_n (n := 5) rfl i
@[go_sem] theorem G.set5 {x0 x1 x2 x3 x4 : Blk} {b : Nat} {T : TypeId} {cs : List Value} {M : List Blk} (g : G w0 X (x0 :: x1 :: x2 :: x3 :: x4 :: (b, T, cs) :: M) I) (i : Nat) (v : Value) : g.w.setCell ⟨b, i, none⟩ v = (g.st5 i v).mark.w := rfl
theorem G.blk5 {x0 x1 x2 x3 x4 : Blk} {b : Nat} {T : TypeId} {cs : List Value} {M : List Blk} (g : G w0 X (x0 :: x1 :: x2 :: x3 :: x4 :: (b, T, cs) :: M) I) : g.w.heap[b]? = some (.cells cs.toArray T (0, 0)) := g.own (b, T, cs) (List.mem_of_getElem? (i := 5) rfl)
theorem G.mut5 {x0 x1 x2 x3 x4 : Blk} {b : Nat} {T : TypeId} {cs : List Value} {M : List Blk} (g : G w0 X (x0 :: x1 :: x2 :: x3 :: x4 :: (b, T, cs) :: M) I) {cs' : List Value} {w1 : World} (h : Chg [b] g.w w1) (hh : w1.heap[b]? = some (.cells cs'.toArray T (0, 0))) : ∃ g' : G w0 X (x0 :: x1 :: x2 :: x3 :: x4 :: (b, T, cs') :: M) I, w1 = g'.w := g.mut_ex 5 (cs := cs) rfl h hh
def G.st6 {x0 x1 x2 x3 x4 x5 : Blk} {b : Nat} {T : TypeId} {cs : List Value} {M : List Blk} (g : G w0 X (x0 :: x1 :: x2 :: x3 :: x4 :: x5 :: (b, T, cs) :: M) I) (i : Nat) (v : Value) : G w0 X (x0 :: x1 :: x2 :: x3 :: x4 :: x5 :: (b, T, cs.set i v) :: M) I := g.st 6 (cs := cs) rfl i v
@[go_sem] theorem G.cell6 {x0 x1 x2 x3 x4 x5 : Blk} {b : Nat} {T : TypeId} {cs : List Value} {M : List Blk} (g : G w0 X (x0 :: x1 :: x2 :: x3 :: x4 :: x5 :: (b, T, cs) :: M) I) (i : Nat) : g.w.cell? ⟨b, i, none⟩ = cs[i]? := g.cell_n (n := 6) rfl i
@[go_sem] theorem G.frozen6 {x0 x1 x2 x3 x4 x5 : Blk} {b : Nat} {T : TypeId} {cs : List Value} {M : List Blk} (g : G w0 X (x0 :: x1 :: x2 :: x3 :: x4 :: x5 :: (b, T, cs) :: M) I) (i : Nat) : g.w.frozen? ⟨b, i, none⟩ = false := g.frozen_n (n := 6) rfl i
@[go_sem] theorem G.set6 {x0 x1 x2 x3 x4 x5 : Blk} {b : Nat} {T : TypeId} {cs : List Value} {M : List Blk} (g : G w0 X (x0 :: x1 :: x2 :: x3 :: x4 :: x5 :: (b, T, cs) :: M) I) (i : Nat) (v : Value) : g.w.setCell ⟨b, i, none⟩ v = (g.st6 i v).mark.w := rfl
theorem G.blk6 {x0 x1 x2 x3 x4 x5 : Blk} {b : Nat} {T : TypeId} {cs : List Value} {M : List Blk} (g : G w0 X (x0 :: x1 :: x2 :: x3 :: x4 :: x5 :: (b, T, cs) :: M) I) : g.w.heap[b]? = some (.cells cs.toArray T (0, 0)) := g.own (b, T, cs) (List.mem_of_getElem? (i := 6) rfl)
theorem G.mut6 {x0 x1 x2 x3 x4 x5 : Blk} {b : Nat} {T : TypeId} {cs : List Value} {M : List Blk} (g : G w0 X (x0 :: x1 :: x2 :: x3 :: x4 :: x5 :: (b, T, cs) :: M) I) {cs' : List Value} {w1 : World} (h : Chg [b] g.w w1) (hh : w1.heap[b]? = some (.cells cs'.toArray T (0, 0))) : ∃ g' : G w0 X (x0 :: x1 :: x2 :: x3 :: x4 :: x5 :: (b, T, cs') :: M) I, w1 = g'.w := g.mut_ex 6 (cs := cs) rfl h hh
def G.st7 {x0 x1 x2 x3 x4 x5 x6 : Blk} {b : Nat} {T : TypeId} {cs : List Value} {M : List Blk} (g : G w0 X (x0 :: x1 :: x2 :: x3 :: x4 :: x5 :: x6 :: (b, T, cs) :: M) I) (i : Nat) (v : Value) : G w0 X (x0 :: x1 :: x2 :: x3 :: x4 :: x5 :: x6 :: (b, T, cs.set i v) :: M) I := g.st 7 (cs := cs) rfl i v
@[go_sem] theorem G.cell7 {x0 x1 x2 x3 x4 x5 x6 : Blk} {b : Nat} {T : TypeId} {cs : List Value} {M : List Blk} (g : G w0 X (x0 :: x1 :: x2 :: x3 :: x4 :: x5 :: x6 :: (b, T, cs) :: M) I) (i : Nat) : g.w.cell? ⟨b, i, none⟩ = cs[i]? := g.cell_n (n := 7) rfl i
@[go_sem] theorem G.frozen7 {x0 x1 x2 x3 x4 x5 x6 : Blk} {b : Nat} {T : TypeId} {cs : List Value} {M : List Blk} (g : G w0 X (x0 :: x1 :: x2 :: x3 :: x4 :: x5 :: x6 :: (b, T, cs) :: M) I) (i : Nat) : g.w.frozen? ⟨b, i, none⟩ = false := g.frozen_n (n := 7) rfl i
@[go_sem] theorem G.set7 {x0 x1 x2 x3 x4 x5 x6 : Blk} {b : Nat} {T : TypeId} {cs : List Value} {M : List Blk} (g : G w0 X (x0 :: x1 :: x2 :: x3 :: x4 :: x5 :: x6 :: (b, T, cs) :: M) I) (i : Nat) (v : Value) : g.w.setCell ⟨b, i, none⟩ v = (g.st7 i v).mark.w := rfl
theorem G.blk7 {x0 x1 x2 x3 x4 x5 x6 : Blk} {b : Nat} {T : TypeId} {cs : List Value} {M : List Blk} (g : G w0 X (x0 :: x1 :: x2 :: x3 :: x4 :: x5 :: x6 :: (b, T, cs) :: M) I) : g.w.heap[b]? = some (.cells cs.toArray T (0, 0)) := g.own (b, T, cs) (List.mem_of_getElem? (i := 7) rfl)
theorem G.mut7 {x0 x1 x2 x3 x4 x5 x6 : Blk} {b : Nat} {T : TypeId} {cs : List Value} {M : List Blk} (g : G w0 X (x0 :: x1 :: x2 :: x3 :: x4 :: x5 :: x6 :: (b, T, cs) :: M) I) {cs' : List Value} {w1 : World} (h : Chg [b] g.w w1) (hh : w1.heap[b]? = some (.cells cs'.toArray T (0, 0))) : ∃ g' : G w0 X (x0 :: x1 :: x2 :: x3 :: x4 :: x5 :: x6 :: (b, T, cs') :: M) I, w1 = g'.w := g.mut_ex 7 (cs := cs) rfl h hh
def G.st8 {x0 x1 x2 x3 x4 x5 x6 x7 : Blk} {b : Nat} {T : TypeId} {cs : List Value} {M : List Blk} (g : G w0 X (x0 :: x1 :: x2 :: x3 :: x4 :: x5 :: x6 :: x7 :: (b, T, cs) :: M) I) (i : Nat) (v : Value) : G w0 X (x0 :: x1 :: x2 :: x3 :: x4 :: x5 :: x6 :: x7 :: (b, T, cs.set i v) :: M) I := g.st 8 (cs := cs) rfl i v
@[go_sem] theorem G.cell8 {x0 x1 x2 x3 x4 x5 x6 x7 : Blk} {b : Nat} {T : TypeId} {cs : List Value} {M : List Blk} (g : G w0 X (x0 :: x1 :: x2 :: x3 :: x4 :: x5 :: x6 :: x7 :: (b, T, cs) :: M) I) (i : Nat) : g.w.cell? ⟨b, i, none⟩ = cs[i]? := g.cell_n (n := 8) rfl i
@[go_sem] theorem G.frozen8 {x0 x1 x2 x3 x4 x5 x6 x7 : Blk} {b : Nat} {T : TypeId} {cs : List Value} {M : List Blk} (g : G w0 X (x0 :: x1 :: x2 :: x3 :: x4 :: x5 :: x6 :: x7 :: (b, T, cs) :: M) I) (i : Nat) : g.w.frozen? ⟨b, i, none⟩ = false := g.frozen_n (n := 8) rfl i
@[go_sem] theorem G.set8 {x0 x1 x2 x3 x4 x5 x6 x7 : Blk} {b : Nat} {T : TypeId} {cs : List Value} {M : List Blk} (g : G w0 X (x0 :: x1 :: x2 :: x3 :: x4 :: x5 :: x6 :: x7 :: (b, T, cs) :: M) I) (i : Nat) (v : Value) : g.w.setCell ⟨b, i, none⟩ v = (g.st8 i v).mark.w := rfl
theorem G.blk8 {x0 x1 x2 x3 x4 x5 x6 x7 : Blk} {b : Nat} {T : TypeId} {cs : List Value} {M : List Blk} (g : G w0 X (x0 :: x1 :: x2 :: x3 :: x4 :: x5 :: x6 :: x7 :: (b, T, cs) :: M) I) : g.w.heap[b]? = some (.cells cs.toArray T (0, 0)) := g.own (b, T, cs) (List.mem_of_getElem? (i := 8) rfl)
theorem G.mut8 {x0 x1 x2 x3 x4 x5 x6 x7 : Blk} {b : Nat} {T : TypeId} {cs : List Value} {M : List Blk} (g : G w0 X (x0 :: x1 :: x2 :: x3 :: x4 :: x5 :: x6 :: x7 :: (b, T, cs) :: M) I) {cs' : List Value} {w1 : World} (h : Chg [b] g.w w1) (hh : w1.heap[b]? = some (.cells cs'.toArray T (0, 0))) : ∃ g' : G w0 X (x0 :: x1 :: x2 :: x3 :: x4 :: x5 :: x6 :: x7 :: (b, T, cs') :: M) I, w1 = g'.w := g.mut_ex 8 (cs := cs) rfl h hh
def G.st9 {x0 x1 x2 x3 x4 x5 x6 x7 x8 : Blk} {b : Nat} {T : TypeId} {cs : List Value} {M : List Blk} (g : G w0 X (x0 :: x1 :: x2 :: x3 :: x4 :: x5 :: x6 :: x7 :: x8 :: (b, T, cs) :: M) I) (i : Nat) (v : Value) : G w0 X (x0 :: x1 :: x2 :: x3 :: x4 :: x5 :: x6 :: x7 :: x8 :: (b, T, cs.set i v) :: M) I := g.st 9 (cs := cs) rfl i v
@[go_sem] theorem G.cell9 {x0 x1 x2 x3 x4 x5 x6 x7 x8 : Blk} {b : Nat} {T : TypeId} {cs : List Value} {M : List Blk} (g : G w0 X (x0 :: x1 :: x2 :: x3 :: x4 :: x5 :: x6 :: x7 :: x8 :: (b, T, cs) :: M) I) (i : Nat) : g.w.cell? ⟨b, i, none⟩ = cs[i]? := g.cell_n (n := 9) rfl i
@[go_sem] theorem G.frozen9 {x0 x1 x2 x3 x4 x5 x6 x7 x8 : Blk} {b : Nat} {T : TypeId} {cs : List Value} {M : List Blk} (g : G w0 X (x0 :: x1 :: x2 :: x3 :: x4 :: x5 :: x6 :: x7 :: x8 :: (b, T, cs) :: M) I) (i : Nat) : g.w.frozen? ⟨b, i, none⟩ = false := g.frozen_n (n := 9) rfl i
@[go_sem] theorem G.set9 {x0 x1 x2 x3 x4 x5 x6 x7 x8 : Blk} {b : Nat} {T : TypeId} {cs : List Value} {M : List Blk} (g : G w0 X (x0 :: x1 :: x2 :: x3 :: x4 :: x5 :: x6 :: x7 :: x8 :: (b, T, cs) :: M) I) (i : Nat) (v : Value) : g.w.setCell ⟨b, i, none⟩ v = (g.st9 i v).mark.w := rfl
theorem G.blk9 {x0 x1 x2 x3 x4 x5 x6 x7 x8 : Blk} {b : Nat} {T : TypeId} {cs : List Value} {M : List Blk} (g : G w0 X (x0 :: x1 :: x2 :: x3 :: x4 :: x5 :: x6 :: x7 :: x8 :: (b, T, cs) :: M) I) : g.w.heap[b]? = some (.cells cs.toArray T (0, 0)) := g.own (b, T, cs) (List.mem_of_getElem? (i := 9) rfl)
theorem G.mut9 {x0 x1 x2 x3 x4 x5 x6 x7 x8 : Blk} {b : Nat} {T : TypeId} {cs : List Value} {M : List Blk} (g : G w0 X (x0 :: x1 :: x2 :: x3 :: x4 :: x5 :: x6 :: x7 :: x8 :: (b, T, cs) :: M) I) {cs' : List Value} {w1 : World} (h : Chg [b] g.w w1) (hh : w1.heap[b]? = some (.cells cs'.toArray T (0, 0))) : ∃ g' : G w0 X (x0 :: x1 :: x2 :: x3 :: x4 :: x5 :: x6 :: x7 :: x8 :: (b, T, cs') :: M) I, w1 = g'.w := g.mut_ex 9 (cs := cs) rfl h hh
def G.st10 {x0 x1 x2 x3 x4 x5 x6 x7 x8 x9 : Blk} {b : Nat} {T : TypeId} {cs : List Value} {M : List Blk} (g : G w0 X (x0 :: x1 :: x2 :: x3 :: x4 :: x5 :: x6 :: x7 :: x8 :: x9 :: (b, T, cs) :: M) I) (i : Nat) (v : Value) : G w0 X (x0 :: x1 :: x2 :: x3 :: x4 :: x5 :: x6 :: x7 :: x8 :: x9 :: (b, T, cs.set i v) :: M) I := g.st 10 (cs := cs) rfl i v
@[go_sem] theorem G.cell10 {x0 x1 x2 x3 x4 x5 x6 x7 x8 x9 : Blk} {b : Nat} {T : TypeId} {cs : List Value} {M : List Blk} (g : G w0 X (x0 :: x1 :: x2 :: x3 :: x4 :: x5 :: x6 :: x7 :: x8 :: x9 :: (b, T, cs) :: M) I) (i : Nat) : g.w.cell? ⟨b, i, none⟩ = cs[i]? := g.cell_n (n := 10) rfl i
@[go_sem] theorem G.frozen10 {x0 x1 x2 x3 x4 x5 x6 x7 x8 x9 : Blk} {b : Nat} {T : TypeId} {cs : List Value} {M : List Blk} (g : G w0 X (x0 :: x1 :: x2 :: x3 :: x4 :: x5 :: x6 :: x7 :: x8 :: x9 :: (b, T, cs) :: M) I) (i : Nat) : g.w.frozen? ⟨b, i, none⟩ = false := g.frozen_n (n := 10) rfl i
@[go_sem] theorem G.set10 {x0 x1 x2 x3 x4 x5 x6 x7 x8 x9 : Blk} {b : Nat} {T : TypeId} {cs : List Value} {M : List Blk} (g : G w0 X (x0 :: x1 :: x2 :: x3 :: x4 :: x5 :: x6 :: x7 :: x8 :: x9 :: (b, T, cs) :: M) I) (i : Nat) (v : Value) : g.w.setCell ⟨b, i, none⟩ v = (g.st10 i v).mark.w := rfl
theorem G.blk10 {x0 x1 x2 x3 x4 x5 x6 x7 x8 x9 : Blk} {b : Nat} {T : TypeId} {cs : List Value} {M : List Blk} (g : G w0 X (x0 :: x1 :: x2 :: x3 :: x4 :: x5 :: x6 :: x7 :: x8 :: x9 :: (b, T, cs) :: M) I) : g.w.heap[b]? = some (.cells cs.toArray T (0, 0)) := g.own (b, T, cs) (List.mem_of_getElem? (i := 10) rfl)
theorem G.mut10 {x0 x1 x2 x3 x4 x5 x6 x7 x8 x9 : Blk} {b : Nat} {T : TypeId} {cs : List Value} {M : List Blk} (g : G w0 X (x0 :: x1 :: x2 :: x3 :: x4 :: x5 :: x6 :: x7 :: x8 :: x9 :: (b, T, cs) :: M) I) {cs' : List Value} {w1 : World} (h : Chg [b] g.w w1) (hh : w1.heap[b]? = some (.cells cs'.toArray T (0, 0))) : ∃ g' : G w0 X (x0 :: x1 :: x2 :: x3 :: x4 :: x5 :: x6 :: x7 :: x8 :: x9 :: (b, T, cs') :: M) I, w1 = g'.w := g.mut_ex 10 (cs := cs) rfl h hh
def G.st11 {x0 x1 x2 x3 x4 x5 x6 x7 x8 x9 x10 : Blk} {b : Nat} {T : TypeId} {cs : List Value} {M : List Blk} (g : G w0 X (x0 :: x1 :: x2 :: x3 :: x4 :: x5 :: x6 :: x7 :: x8 :: x9 :: x10 :: (b, T, cs) :: M) I) (i : Nat) (v : Value) : G w0 X (x0 :: x1 :: x2 :: x3 :: x4 :: x5 :: x6 :: x7 :: x8 :: x9 :: x10 :: (b, T, cs.set i v) :: M) I := g.st 11 (cs := cs) rfl i v
@[go_sem] theorem G.cell11 {x0 x1 x2 x3 x4 x5 x6 x7 x8 x9 x10 : Blk} {b : Nat} {T : TypeId} {cs : List Value} {M : List Blk} (g : G w0 X (x0 :: x1 :: x2 :: x3 :: x4 :: x5 :: x6 :: x7 :: x8 :: x9 :: x10 :: (b, T, cs) :: M) I) (i : Nat) : g.w.cell? ⟨b, i, none⟩ = cs[i]? := g.cell_n (n := 11) rfl i
@[go_sem] theorem G.frozen11 {x0 x1 x2 x3 x4 x5 x6 x7 x8 x9 x10 : Blk} {b : Nat} {T : TypeId} {cs : List Value} {M : List Blk} (g : G w0 X (x0 :: x1 :: x2 :: x3 :: x4 :: x5 :: x6 :: x7 :: x8 :: x9 :: x10 :: (b, T, cs) :: M) I) (i : Nat) : g.w.frozen? ⟨b, i, none⟩ = false := g.frozen_n (n := 11) rfl i
@[go_sem] theorem G.set11 {x0 x1 x2 x3 x4 x5 x6 x7 x8 x9 x10 : Blk} {b : Nat} {T : TypeId} {cs : List Value} {M : List Blk} (g : G w0 X (x0 :: x1 :: x2 :: x3 :: x4 :: x5 :: x6 :: x7 :: x8 :: x9 :: x10 :: (b, T, cs) :: M) I) (i : Nat) (v : Value) : g.w.setCell ⟨b, i, none⟩ v = (g.st11 i v).mark.w := rfl
theorem G.blk11 {x0 x1 x2 x3 x4 x5 x6 x7 x8 x9 x10 : Blk} {b : Nat} {T : TypeId} {cs : List Value} {M : List Blk} (g : G w0 X (x0 :: x1 :: x2 :: x3 :: x4 :: x5 :: x6 :: x7 :: x8 :: x9 :: x10 :: (b, T, cs) :: M) I) : g.w.heap[b]? = some (.cells cs.toArray T (0, 0)) := g.own (b, T, cs) (List.mem_of_getElem? (i := 11) rfl)
theorem G.mut11 {x0 x1 x2 x3 x4 x5 x6 x7 x8 x9 x10 : Blk} {b : Nat} {T : TypeId} {cs : List Value} {M : List Blk} (g : G w0 X (x0 :: x1 :: x2 :: x3 :: x4 :: x5 :: x6 :: x7 :: x8 :: x9 :: x10 :: (b, T, cs) :: M) I) {cs' : List Value} {w1 : World} (h : Chg [b] g.w w1) (hh : w1.heap[b]? = some (.cells cs'.toArray T (0, 0))) : ∃ g' : G w0 X (x0 :: x1 :: x2 :: x3 :: x4 :: x5 :: x6 :: x7 :: x8 :: x9 :: x10 :: (b, T, cs') :: M) I, w1 = g'.w := g.mut_ex 11 (cs := cs) rfl h hh
def G.st12 {x0 x1 x2 x3 x4 x5 x6 x7 x8 x9 x10 x11 : Blk} {b : Nat} {T : TypeId} {cs : List Value} {M : List Blk} (g : G w0 X (x0 :: x1 :: x2 :: x3 :: x4 :: x5 :: x6 :: x7 :: x8 :: x9 :: x10 :: x11 :: (b, T, cs) :: M) I) (i : Nat) (v : Value) : G w0 X (x0 :: x1 :: x2 :: x3 :: x4 :: x5 :: x6 :: x7 :: x8 :: x9 :: x10 :: x11 :: (b, T, cs.set i v) :: M) I := g.st 12 (cs := cs) rfl i v
@[go_sem] theorem G.cell12 {x0 x1 x2 x3 x4 x5 x6 x7 x8 x9 x10 x11 : Blk} {b : Nat} {T : TypeId} {cs : List Value} {M : List Blk} (g : G w0 X (x0 :: x1 :: x2 :: x3 :: x4 :: x5 :: x6 :: x7 :: x8 :: x9 :: x10 :: x11 :: (b, T, cs) :: M) I) (i : Nat) : g.w.cell? ⟨b, i, none⟩ = cs[i]? := g.cell_n (n := 12) rfl i
@[go_sem] theorem G.frozen12 {x0 x1 x2 x3 x4 x5 x6 x7 x8 x9 x10 x11 : Blk} {b : Nat} {T : TypeId} {cs : List Value} {M : List Blk} (g : G w0 X (x0 :: x1 :: x2 :: x3 :: x4 :: x5 :: x6 :: x7 :: x8 :: x9 :: x10 :: x11 :: (b, T, cs) :: M) I) (i : Nat) : g.w.frozen? ⟨b, i, none⟩ = false := g.frozen_n (n := 12) rfl i
@[go_sem] theorem G.set12 {x0 x1 x2 x3 x4 x5 x6 x7 x8 x9 x10 x11 : Blk} {b : Nat} {T : TypeId} {cs : List Value} {M : List Blk} (g : G w0 X (x0 :: x1 :: x2 :: x3 :: x4 :: x5 :: x6 :: x7 :: x8 :: x9 :: x10 :: x11 :: (b, T, cs) :: M) I) (i : Nat) (v : Value) : g.w.setCell ⟨b, i, none⟩ v = (g.st12 i v).mark.w := rfl
theorem G.blk12 {x0 x1 x2 x3 x4 x5 x6 x7 x8 x9 x10 x11 : Blk} {b : Nat} {T : TypeId} {cs : List Value} {M : List Blk} (g : G w0 X (x0 :: x1 :: x2 :: x3 :: x4 :: x5 :: x6 :: x7 :: x8 :: x9 :: x10 :: x11 :: (b, T, cs) :: M) I) : g.w.heap[b]? = some (.cells cs.toArray T (0, 0)) := g.own (b, T, cs) (List.mem_of_getElem? (i := 12) rfl)
theorem G.mut12 {x0 x1 x2 x3 x4 x5 x6 x7 x8 x9 x10 x11 : Blk} {b : Nat} {T : TypeId} {cs : List Value} {M : List Blk} (g : G w0 X (x0 :: x1 :: x2 :: x3 :: x4 :: x5 :: x6 :: x7 :: x8 :: x9 :: x10 :: x11 :: (b, T, cs) :: M) I) {cs' : List Value} {w1 : World} (h : Chg [b] g.w w1) (hh : w1.heap[b]? = some (.cells cs'.toArray T (0, 0))) : ∃ g' : G w0 X (x0 :: x1 :: x2 :: x3 :: x4 :: x5 :: x6 :: x7 :: x8 :: x9 :: x10 :: x11 :: (b, T, cs') :: M) I, w1 = g'.w := g.mut_ex 12 (cs := cs) rfl h hh
def G.st13 {x0 x1 x2 x3 x4 x5 x6 x7 x8 x9 x10 x11 x12 : Blk} {b : Nat} {T : TypeId} {cs : List Value} {M : List Blk} (g : G w0 X (x0 :: x1 :: x2 :: x3 :: x4 :: x5 :: x6 :: x7 :: x8 :: x9 :: x10 :: x11 :: x12 :: (b, T, cs) :: M) I) (i : Nat) (v : Value) : G w0 X (x0 :: x1 :: x2 :: x3 :: x4 :: x5 :: x6 :: x7 :: x8 :: x9 :: x10 :: x11 :: x12 :: (b, T, cs.set i v) :: M) I := g.st 13 (cs := cs) rfl i v
@[go_sem] theorem G.cell13 {x0 x1 x2 x3 x4 x5 x6 x7 x8 x9 x10 x11 x12 : Blk} {b : Nat} {T : TypeId} {cs : List Value} {M : List Blk} (g : G w0 X (x0 :: x1 :: x2 :: x3 :: x4 :: x5 :: x6 :: x7 :: x8 :: x9 :: x10 :: x11 :: x12 :: (b, T, cs) :: M) I) (i : Nat) : g.w.cell? ⟨b, i, none⟩ = cs[i]? := g.cell_n (n := 13) rfl i
@[go_sem] theorem G.frozen13 {x0 x1 x2 x3 x4 x5 x6 x7 x8 x9 x10 x11 x12 : Blk} {b : Nat} {T : TypeId} {cs : List Value} {M : List Blk} (g : G w0 X (x0 :: x1 :: x2 :: x3 :: x4 :: x5 :: x6 :: x7 :: x8 :: x9 :: x10 :: x11 :: x12 :: (b, T, cs) :: M) I) (i : Nat) : g.w.frozen? ⟨b, i, none⟩ = false := g.frozen_n (n := 13) rfl i
@[go_sem] theorem G.set13 {x0 x1 x2 x3 x4 x5 x6 x7 x8 x9 x10 x11 x12 : Blk} {b : Nat} {T : TypeId} {cs : List Value} {M : List Blk} (g : G w0 X (x0 :: x1 :: x2 :: x3 :: x4 :: x5 :: x6 :: x7 :: x8 :: x9 :: x10 :: x11 :: x12 :: (b, T, cs) :: M) I) (i : Nat) (v : Value) : g.w.setCell ⟨b, i, none⟩ v = (g.st13 i v).mark.w := rfl
theorem G.blk13 {x0 x1 x2 x3 x4 x5 x6 x7 x8 x9 x10 x11 x12 : Blk} {b : Nat} {T : TypeId} {cs : List Value} {M : List Blk} (g : G w0 X (x0 :: x1 :: x2 :: x3 :: x4 :: x5 :: x6 :: x7 :: x8 :: x9 :: x10 :: x11 :: x12 :: (b, T, cs) :: M) I) : g.w.heap[b]? = some (.cells cs.toArray T (0, 0)) := g.own (b, T, cs) (List.mem_of_getElem? (i := 13) rfl)
theorem G.mut13 {x0 x1 x2 x3 x4 x5 x6 x7 x8 x9 x10 x11 x12 : Blk} {b : Nat} {T : TypeId} {cs : List Value} {M : List Blk} (g : G w0 X (x0 :: x1 :: x2 :: x3 :: x4 :: x5 :: x6 :: x7 :: x8 :: x9 :: x10 :: x11 :: x12 :: (b, T, cs) :: M) I) {cs' : List Value} {w1 : World} (h : Chg [b] g.w w1) (hh : w1.heap[b]? = some (.cells cs'.toArray T (0, 0))) : ∃ g' : G w0 X (x0 :: x1 :: x2 :: x3 :: x4 :: x5 :: x6 :: x7 :: x8 :: x9 :: x10 :: x11 :: x12 :: (b, T, cs') :: M) I, w1 = g'.w := g.mut_ex 13 (cs := cs) rfl h hh
def G.st14 {x0 x1 x2 x3 x4 x5 x6 x7 x8 x9 x10 x11 x12 x13 : Blk} {b : Nat} {T : TypeId} {cs : List Value} {M : List Blk} (g : G w0 X (x0 :: x1 :: x2 :: x3 :: x4 :: x5 :: x6 :: x7 :: x8 :: x9 :: x10 :: x11 :: x12 :: x13 :: (b, T, cs) :: M) I) (i : Nat) (v : Value) : G w0 X (x0 :: x1 :: x2 :: x3 :: x4 :: x5 :: x6 :: x7 :: x8 :: x9 :: x10 :: x11 :: x12 :: x13 :: (b, T, cs.set i v) :: M) I := g.st 14 (cs := cs) rfl i v
@[go_sem] theorem G.cell14 {x0 x1 x2 x3 x4 x5 x6 x7 x8 x9 x10 x11 x12 x13 : Blk} {b : Nat} {T : TypeId} {cs : List Value} {M : List Blk} (g : G w0 X (x0 :: x1 :: x2 :: x3 :: x4 :: x5 :: x6 :: x7 :: x8 :: x9 :: x10 :: x11 :: x12 :: x13 :: (b, T, cs) :: M) I) (i : Nat) : g.w.cell? ⟨b, i, none⟩ = cs[i]? := g.cell_n (n := 14) rfl i
@[go_sem] theorem G.frozen14 {x0 x1 x2 x3 x4 x5 x6 x7 x8 x9 x10 x11 x12 x13 : Blk} {b : Nat} {T : TypeId} {cs : List Value} {M : List Blk} (g : G w0 X (x0 :: x1 :: x2 :: x3 :: x4 :: x5 :: x6 :: x7 :: x8 :: x9 :: x10 :: x11 :: x12 :: x13 :: (b, T, cs) :: M) I) (i : Nat) : g.w.frozen? ⟨b, i, none⟩ = false := g.frozen_n (n := 14) rfl i
@[go_sem] theorem G.set14 {x0 x1 x2 x3 x4 x5 x6 x7 x8 x9 x10 x11 x12 x13 : Blk} {b : Nat} {T : TypeId} {cs : List Value} {M : List Blk} (g : G w0 X (x0 :: x1 :: x2 :: x3 :: x4 :: x5 :: x6 :: x7 :: x8 :: x9 :: x10 :: x11 :: x12 :: x13 :: (b, T, cs) :: M) I) (i : Nat) (v : Value) : g.w.setCell ⟨b, i, none⟩ v = (g.st14 i v).mark.w := rfl
theorem G.blk14 {x0 x1 x2 x3 x4 x5 x6 x7 x8 x9 x10 x11 x12 x13 : Blk} {b : Nat} {T : TypeId} {cs : List Value} {M : List Blk} (g : G w0 X (x0 :: x1 :: x2 :: x3 :: x4 :: x5 :: x6 :: x7 :: x8 :: x9 :: x10 :: x11 :: x12 :: x13 :: (b, T, cs) :: M) I) : g.w.heap[b]? = some (.cells cs.toArray T (0, 0)) := g.own (b, T, cs) (List.mem_of_getElem? (i := 14) rfl)
theorem G.mut14 {x0 x1 x2 x3 x4 x5 x6 x7 x8 x9 x10 x11 x12 x13 : Blk} {b : Nat} {T : TypeId} {cs : List Value} {M : List Blk} (g : G w0 X (x0 :: x1 :: x2 :: x3 :: x4 :: x5 :: x6 :: x7 :: x8 :: x9 :: x10 :: x11 :: x12 :: x13 :: (b, T, cs) :: M) I) {cs' : List Value} {w1 : World} (h : Chg [b] g.w w1) (hh : w1.heap[b]? = some (.cells cs'.toArray T (0, 0))) : ∃ g' : G w0 X (x0 :: x1 :: x2 :: x3 :: x4 :: x5 :: x6 :: x7 :: x8 :: x9 :: x10 :: x11 :: x12 :: x13 :: (b, T, cs') :: M) I, w1 = g'.w := g.mut_ex 14 (cs := cs) rfl h hh
def G.st15 {x0 x1 x2 x3 x4 x5 x6 x7 x8 x9 x10 x11 x12 x13 x14 : Blk} {b : Nat} {T : TypeId} {cs : List Value} {M : List Blk} (g : G w0 X (x0 :: x1 :: x2 :: x3 :: x4 :: x5 :: x6 :: x7 :: x8 :: x9 :: x10 :: x11 :: x12 :: x13 :: x14 :: (b, T, cs) :: M) I) (i : Nat) (v : Value) : G w0 X (x0 :: x1 :: x2 :: x3 :: x4 :: x5 :: x6 :: x7 :: x8 :: x9 :: x10 :: x11 :: x12 :: x13 :: x14 :: (b, T, cs.set i v) :: M) I := g.st 15 (cs := cs) rfl i v
@[go_sem] theorem G.cell15 {x0 x1 x2 x3 x4 x5 x6 x7 x8 x9 x10 x11 x12 x13 x14 : Blk} {b : Nat} {T : TypeId} {cs : List Value} {M : List Blk} (g : G w0 X (x0 :: x1 :: x2 :: x3 :: x4 :: x5 :: x6 :: x7 :: x8 :: x9 :: x10 :: x11 :: x12 :: x13 :: x14 :: (b, T, cs) :: M) I) (i : Nat) : g.w.cell? ⟨b, i, none⟩ = cs[i]? := g.cell_n (n := 15) rfl i
@[go_sem] theorem G.frozen15 {x0 x1 x2 x3 x4 x5 x6 x7 x8 x9 x10 x11 x12 x13 x14 : Blk} {b : Nat} {T : TypeId} {cs : List Value} {M : List Blk} (g : G w0 X (x0 :: x1 :: x2 :: x3 :: x4 :: x5 :: x6 :: x7 :: x8 :: x9 :: x10 :: x11 :: x12 :: x13 :: x14 :: (b, T, cs) :: M) I) (i : Nat) : g.w.frozen? ⟨b, i, none⟩ = false := g.frozen_n (n := 15) rfl i
@[go_sem] theorem G.set15 {x0 x1 x2 x3 x4 x5 x6 x7 x8 x9 x10 x11 x12 x13 x14 : Blk} {b : Nat} {T : TypeId} {cs : List Value} {M : List Blk} (g : G w0 X (x0 :: x1 :: x2 :: x3 :: x4 :: x5 :: x6 :: x7 :: x8 :: x9 :: x10 :: x11 :: x12 :: x13 :: x14 :: (b, T, cs) :: M) I) (i : Nat) (v : Value) : g.w.setCell ⟨b, i, none⟩ v = (g.st15 i v).mark.w := rfl
theorem G.blk15 {x0 x1 x2 x3 x4 x5 x6 x7 x8 x9 x10 x11 x12 x13 x14 : Blk} {b : Nat} {T : TypeId} {cs : List Value} {M : List Blk} (g : G w0 X (x0 :: x1 :: x2 :: x3 :: x4 :: x5 :: x6 :: x7 :: x8 :: x9 :: x10 :: x11 :: x12 :: x13 :: x14 :: (b, T, cs) :: M) I) : g.w.heap[b]? = some (.cells cs.toArray T (0, 0)) := g.own (b, T, cs) (List.mem_of_getElem? (i := 15) rfl)
theorem G.mut15 {x0 x1 x2 x3 x4 x5 x6 x7 x8 x9 x10 x11 x12 x13 x14 : Blk} {b : Nat} {T : TypeId} {cs : List Value} {M : List Blk} (g : G w0 X (x0 :: x1 :: x2 :: x3 :: x4 :: x5 :: x6 :: x7 :: x8 :: x9 :: x10 :: x11 :: x12 :: x13 :: x14 :: (b, T, cs) :: M) I) {cs' : List Value} {w1 : World} (h : Chg [b] g.w w1) (hh : w1.heap[b]? = some (.cells cs'.toArray T (0, 0))) : ∃ g' : G w0 X (x0 :: x1 :: x2 :: x3 :: x4 :: x5 :: x6 :: x7 :: x8 :: x9 :: x10 :: x11 :: x12 :: x13 :: x14 :: (b, T, cs') :: M) I, w1 = g'.w := g.mut_ex 15 (cs := cs) rfl h hh
def G.st16 {x0 x1 x2 x3 x4 x5 x6 x7 x8 x9 x10 x11 x12 x13 x14 x15 : Blk} {b : Nat} {T : TypeId} {cs : List Value} {M : List Blk} (g : G w0 X (x0 :: x1 :: x2 :: x3 :: x4 :: x5 :: x6 :: x7 :: x8 :: x9 :: x10 :: x11 :: x12 :: x13 :: x14 :: x15 :: (b, T, cs) :: M) I) (i : Nat) (v : Value) : G w0 X (x0 :: x1 :: x2 :: x3 :: x4 :: x5 :: x6 :: x7 :: x8 :: x9 :: x10 :: x11 :: x12 :: x13 :: x14 :: x15 :: (b, T, cs.set i v) :: M) I := g.st 16 (cs := cs) rfl i v
@[go_sem] theorem G.cell16 {x0 x1 x2 x3 x4 x5 x6 x7 x8 x9 x10 x11 x12 x13 x14 x15 : Blk} {b : Nat} {T : TypeId} {cs : List Value} {M : List Blk} (g : G w0 X (x0 :: x1 :: x2 :: x3 :: x4 :: x5 :: x6 :: x7 :: x8 :: x9 :: x10 :: x11 :: x12 :: x13 :: x14 :: x15 :: (b, T, cs) :: M) I) (i : Nat) : g.w.cell? ⟨b, i, none⟩ = cs[i]? := g.cell_n (n := 16) rfl i
@[go_sem] theorem G.frozen16 {x0 x1 x2 x3 x4 x5 x6 x7 x8 x9 x10 x11 x12 x13 x14 x15 : Blk} {b : Nat} {T : TypeId} {cs : List Value} {M : List Blk} (g : G w0 X (x0 :: x1 :: x2 :: x3 :: x4 :: x5 :: x6 :: x7 :: x8 :: x9 :: x10 :: x11 :: x12 :: x13 :: x14 :: x15 :: (b, T, cs) :: M) I) (i : Nat) : g.w.frozen? ⟨b, i, none⟩ = false := g.frozen_n (n := 16) rfl i
@[go_sem] theorem G.set16 {x0 x1 x2 x3 x4 x5 x6 x7 x8 x9 x10 x11 x12 x13 x14 x15 : Blk} {b : Nat} {T : TypeId} {cs : List Value} {M : List Blk} (g : G w0 X (x0 :: x1 :: x2 :: x3 :: x4 :: x5 :: x6 :: x7 :: x8 :: x9 :: x10 :: x11 :: x12 :: x13 :: x14 :: x15 :: (b, T, cs) :: M) I) (i : Nat) (v : Value) : g.w.setCell ⟨b, i, none⟩ v = (g.st16 i v).mark.w := rfl
theorem G.blk16 {x0 x1 x2 x3 x4 x5 x6 x7 x8 x9 x10 x11 x12 x13 x14 x15 : Blk} {b : Nat} {T : TypeId} {cs : List Value} {M : List Blk} (g : G w0 X (x0 :: x1 :: x2 :: x3 :: x4 :: x5 :: x6 :: x7 :: x8 :: x9 :: x10 :: x11 :: x12 :: x13 :: x14 :: x15 :: (b, T, cs) :: M) I) : g.w.heap[b]? = some (.cells cs.toArray T (0, 0)) := g.own (b, T, cs) (List.mem_of_getElem? (i := 16) rfl)
theorem G.mut16 {x0 x1 x2 x3 x4 x5 x6 x7 x8 x9 x10 x11 x12 x13 x14 x15 : Blk} {b : Nat} {T : TypeId} {cs : List Value} {M : List Blk} (g : G w0 X (x0 :: x1 :: x2 :: x3 :: x4 :: x5 :: x6 :: x7 :: x8 :: x9 :: x10 :: x11 :: x12 :: x13 :: x14 :: x15 :: (b, T, cs) :: M) I) {cs' : List Value} {w1 : World} (h : Chg [b] g.w w1) (hh : w1.heap[b]? = some (.cells cs'.toArray T (0, 0))) : ∃ g' : G w0 X (x0 :: x1 :: x2 :: x3 :: x4 :: x5 :: x6 :: x7 :: x8 :: x9 :: x10 :: x11 :: x12 :: x13 :: x14 :: x15 :: (b, T, cs') :: M) I, w1 = g'.w := g.mut_ex 16 (cs := cs) rfl h hh
def G.st17 {x0 x1 x2 x3 x4 x5 x6 x7 x8 x9 x10 x11 x12 x13 x14 x15 x16 : Blk} {b : Nat} {T : TypeId} {cs : List Value} {M : List Blk} (g : G w0 X (x0 :: x1 :: x2 :: x3 :: x4 :: x5 :: x6 :: x7 :: x8 :: x9 :: x10 :: x11 :: x12 :: x13 :: x14 :: x15 :: x16 :: (b, T, cs) :: M) I) (i : Nat) (v : Value) : G w0 X (x0 :: x1 :: x2 :: x3 :: x4 :: x5 :: x6 :: x7 :: x8 :: x9 :: x10 :: x11 :: x12 :: x13 :: x14 :: x15 :: x16 :: (b, T, cs.set i v) :: M) I := g.st 17 (cs := cs) rfl i v
@[go_sem] theorem G.cell17 {x0 x1 x2 x3 x4 x5 x6 x7 x8 x9 x10 x11 x12 x13 x14 x15 x16 : Blk} {b : Nat} {T : TypeId} {cs : List Value} {M : List Blk} (g : G w0 X (x0 :: x1 :: x2 :: x3 :: x4 :: x5 :: x6 :: x7 :: x8 :: x9 :: x10 :: x11 :: x12 :: x13 :: x14 :: x15 :: x16 :: (b, T, cs) :: M) I) (i : Nat) : g.w.cell? ⟨b, i, none⟩ = cs[i]? := g.cell_n (n := 17) rfl i
@[go_sem] theorem G.frozen17 {x0 x1 x2 x3 x4 x5 x6 x7 x8 x9 x10 x11 x12 x13 x14 x15 x16 : Blk} {b : Nat} {T : TypeId} {cs : List Value} {M : List Blk} (g : G w0 X (x0 :: x1 :: x2 :: x3 :: x4 :: x5 :: x6 :: x7 :: x8 :: x9 :: x10 :: x11 :: x12 :: x13 :: x14 :: x15 :: x16 :: (b, T, cs) :: M) I) (i : Nat) : g.w.frozen? ⟨b, i, none⟩ = false := g.frozen_n (n := 17) rfl i
@[go_sem] theorem G.set17 {x0 x1 x2 x3 x4 x5 x6 x7 x8 x9 x10 x11 x12 x13 x14 x15 x16 : Blk} {b : Nat} {T : TypeId} {cs : List Value} {M : List Blk} (g : G w0 X (x0 :: x1 :: x2 :: x3 :: x4 :: x5 :: x6 :: x7 :: x8 :: x9 :: x10 :: x11 :: x12 :: x13 :: x14 :: x15 :: x16 :: (b, T, cs) :: M) I) (i : Nat) (v : Value) : g.w.setCell ⟨b, i, none⟩ v = (g.st17 i v).mark.w := rfl
theorem G.blk17 {x0 x1 x2 x3 x4 x5 x6 x7 x8 x9 x10 x11 x12 x13 x14 x15 x16 : Blk} {b : Nat} {T : TypeId} {cs : List Value} {M : List Blk} (g : G w0 X (x0 :: x1 :: x2 :: x3 :: x4 :: x5 :: x6 :: x7 :: x8 :: x9 :: x10 :: x11 :: x12 :: x13 :: x14 :: x15 :: x16 :: (b, T, cs) :: M) I) : g.w.heap[b]? = some (.cells cs.toArray T (0, 0)) := g.own (b, T, cs) (List.mem_of_getElem? (i := 17) rfl)
theorem G.mut17 {x0 x1 x2 x3 x4 x5 x6 x7 x8 x9 x10 x11 x12 x13 x14 x15 x16 : Blk} {b : Nat} {T : TypeId} {cs : List Value} {M : List Blk} (g : G w0 X (x0 :: x1 :: x2 :: x3 :: x4 :: x5 :: x6 :: x7 :: x8 :: x9 :: x10 :: x11 :: x12 :: x13 :: x14 :: x15 :: x16 :: (b, T, cs) :: M) I) {cs' : List Value} {w1 : World} (h : Chg [b] g.w w1) (hh : w1.heap[b]? = some (.cells cs'.toArray T (0, 0))) : ∃ g' : G w0 X (x0 :: x1 :: x2 :: x3 :: x4 :: x5 :: x6 :: x7 :: x8 :: x9 :: x10 :: x11 :: x12 :: x13 :: x14 :: x15 :: x16 :: (b, T, cs') :: M) I, w1 = g'.w := g.mut_ex 17 (cs := cs) rfl h hh
def G.st18 {x0 x1 x2 x3 x4 x5 x6 x7 x8 x9 x10 x11 x12 x13 x14 x15 x16 x17 : Blk} {b : Nat} {T : TypeId} {cs : List Value} {M : List Blk} (g : G w0 X (x0 :: x1 :: x2 :: x3 :: x4 :: x5 :: x6 :: x7 :: x8 :: x9 :: x10 :: x11 :: x12 :: x13 :: x14 :: x15 :: x16 :: x17 :: (b, T, cs) :: M) I) (i : Nat) (v : Value) : G w0 X (x0 :: x1 :: x2 :: x3 :: x4 :: x5 :: x6 :: x7 :: x8 :: x9 :: x10 :: x11 :: x12 :: x13 :: x14 :: x15 :: x16 :: x17 :: (b, T, cs.set i v) :: M) I := g.st 18 (cs := cs) rfl i v
@[go_sem] theorem G.cell18 {x0 x1 x2 x3 x4 x5 x6 x7 x8 x9 x10 x11 x12 x13 x14 x15 x16 x17 : Blk} {b : Nat} {T : TypeId} {cs : List Value} {M : List Blk} (g : G w0 X (x0 :: x1 :: x2 :: x3 :: x4 :: x5 :: x6 :: x7 :: x8 :: x9 :: x10 :: x11 :: x12 :: x13 :: x14 :: x15 :: x16 :: x17 :: (b, T, cs) :: M) I) (i : Nat) : g.w.cell? ⟨b, i, none⟩ = cs[i]? := g.cell_n (n := 18) rfl i
@[go_sem] theorem G.frozen18 {x0 x1 x2 x3 x4 x5 x6 x7 x8 x9 x10 x11 x12 x13 x14 x15 x16 x17 : Blk} {b : Nat} {T : TypeId} {cs : List Value} {M : List Blk} (g : G w0 X (x0 :: x1 :: x2 :: x3 :: x4 :: x5 :: x6 :: x7 :: x8 :: x9 :: x10 :: x11 :: x12 :: x13 :: x14 :: x15 :: x16 :: x17 :: (b, T, cs) :: M) I) (i : Nat) : g.w.frozen? ⟨b, i, none⟩ = false := g.frozen_n (n := 18) rfl i
@[go_sem] theorem G.set18 {x0 x1 x2 x3 x4 x5 x6 x7 x8 x9 x10 x11 x12 x13 x14 x15 x16 x17 : Blk} {b : Nat} {T : TypeId} {cs : List Value} {M : List Blk} (g : G w0 X (x0 :: x1 :: x2 :: x3 :: x4 :: x5 :: x6 :: x7 :: x8 :: x9 :: x10 :: x11 :: x12 :: x13 :: x14 :: x15 :: x16 :: x17 :: (b, T, cs) :: M) I) (i : Nat) (v : Value) : g.w.setCell ⟨b, i, none⟩ v = (g.st18 i v).mark.w := rfl
theorem G.blk18 {x0 x1 x2 x3 x4 x5 x6 x7 x8 x9 x10 x11 x12 x13 x14 x15 x16 x17 : Blk} {b : Nat} {T : TypeId} {cs : List Value} {M : List Blk} (g : G w0 X (x0 :: x1 :: x2 :: x3 :: x4 :: x5 :: x6 :: x7 :: x8 :: x9 :: x10 :: x11 :: x12 :: x13 :: x14 :: x15 :: x16 :: x17 :: (b, T, cs) :: M) I) : g.w.heap[b]? = some (.cells cs.toArray T (0, 0)) := g.own (b, T, cs) (List.mem_of_getElem? (i := 18) rfl)
theorem G.mut18 {x0 x1 x2 x3 x4 x5 x6 x7 x8 x9 x10 x11 x12 x13 x14 x15 x16 x17 : Blk} {b : Nat} {T : TypeId} {cs : List Value} {M : List Blk} (g : G w0 X (x0 :: x1 :: x2 :: x3 :: x4 :: x5 :: x6 :: x7 :: x8 :: x9 :: x10 :: x11 :: x12 :: x13 :: x14 :: x15 :: x16 :: x17 :: (b, T, cs) :: M) I) {cs' : List Value} {w1 : World} (h : Chg [b] g.w w1) (hh : w1.heap[b]? = some (.cells cs'.toArray T (0, 0))) : ∃ g' : G w0 X (x0 :: x1 :: x2 :: x3 :: x4 :: x5 :: x6 :: x7 :: x8 :: x9 :: x10 :: x11 :: x12 :: x13 :: x14 :: x15 :: x16 :: x17 :: (b, T, cs') :: M) I, w1 = g'.w := g.mut_ex 18 (cs := cs) rfl h hh
def G.st19 {x0 x1 x2 x3 x4 x5 x6 x7 x8 x9 x10 x11 x12 x13 x14 x15 x16 x17 x18 : Blk} {b : Nat} {T : TypeId} {cs : List Value} {M : List Blk} (g : G w0 X (x0 :: x1 :: x2 :: x3 :: x4 :: x5 :: x6 :: x7 :: x8 :: x9 :: x10 :: x11 :: x12 :: x13 :: x14 :: x15 :: x16 :: x17 :: x18 :: (b, T, cs) :: M) I) (i : Nat) (v : Value) : G w0 X (x0 :: x1 :: x2 :: x3 :: x4 :: x5 :: x6 :: x7 :: x8 :: x9 :: x10 :: x11 :: x12 :: x13 :: x14 :: x15 :: x16 :: x17 :: x18 :: (b, T, cs.set i v) :: M) I := g.st 19 (cs := cs) rfl i v
@[go_sem] theorem G.cell19 {x0 x1 x2 x3 x4 x5 x6 x7 x8 x9 x10 x11 x12 x13 x14 x15 x16 x17 x18 : Blk} {b : Nat} {T : TypeId} {cs : List Value} {M : List Blk} (g : G w0 X (x0 :: x1 :: x2 :: x3 :: x4 :: x5 :: x6 :: x7 :: x8 :: x9 :: x10 :: x11 :: x12 :: x13 :: x14 :: x15 :: x16 :: x17 :: x18 :: (b, T, cs) :: M) I) (i : Nat) : g.w.cell? ⟨b, i, none⟩ = cs[i]? := g.cell_n (n := 19) rfl i
@[go_sem] theorem G.frozen19 {x0 x1 x2 x3 x4 x5 x6 x7 x8 x9 x10 x11 x12 x13 x14 x15 x16 x17 x18 : Blk} {b : Nat} {T : TypeId} {cs : List Value} {M : List Blk} (g : G w0 X (x0 :: x1 :: x2 :: x3 :: x4 :: x5 :: x6 :: x7 :: x8 :: x9 :: x10 :: x11 :: x12 :: x13 :: x14 :: x15 :: x16 :: x17 :: x18 :: (b, T, cs) :: M) I) (i : Nat) : g.w.frozen? ⟨b, i, none⟩ = false := g.frozen_n (n := 19) rfl i
@[go_sem] theorem G.set19 {x0 x1 x2 x3 x4 x5 x6 x7 x8 x9 x10 x11 x12 x13 x14 x15 x16 x17 x18 : Blk} {b : Nat} {T : TypeId} {cs : List Value} {M : List Blk} (g : G w0 X (x0 :: x1 :: x2 :: x3 :: x4 :: x5 :: x6 :: x7 :: x8 :: x9 :: x10 :: x11 :: x12 :: x13 :: x14 :: x15 :: x16 :: x17 :: x18 :: (b, T, cs) :: M) I) (i : Nat) (v : Value) : g.w.setCell ⟨b, i, none⟩ v = (g.st19 i v).mark.w := rfl
theorem G.blk19 {x0 x1 x2 x3 x4 x5 x6 x7 x8 x9 x10 x11 x12 x13 x14 x15 x16 x17 x18 : Blk} {b : Nat} {T : TypeId} {cs : List Value} {M : List Blk} (g : G w0 X (x0 :: x1 :: x2 :: x3 :: x4 :: x5 :: x6 :: x7 :: x8 :: x9 :: x10 :: x11 :: x12 :: x13 :: x14 :: x15 :: x16 :: x17 :: x18 :: (b, T, cs) :: M) I) : g.w.heap[b]? = some (.cells cs.toArray T (0, 0)) := g.own (b, T, cs) (List.mem_of_getElem? (i := 19) rfl)
theorem G.mut19 {x0 x1 x2 x3 x4 x5 x6 x7 x8 x9 x10 x11 x12 x13 x14 x15 x16 x17 x18 : Blk} {b : Nat} {T : TypeId} {cs : List Value} {M : List Blk} (g : G w0 X (x0 :: x1 :: x2 :: x3 :: x4 :: x5 :: x6 :: x7 :: x8 :: x9 :: x10 :: x11 :: x12 :: x13 :: x14 :: x15 :: x16 :: x17 :: x18 :: (b, T, cs) :: M) I) {cs' : List Value} {w1 : World} (h : Chg [b] g.w w1) (hh : w1.heap[b]? = some (.cells cs'.toArray T (0, 0))) : ∃ g' : G w0 X (x0 :: x1 :: x2 :: x3 :: x4 :: x5 :: x6 :: x7 :: x8 :: x9 :: x10 :: x11 :: x12 :: x13 :: x14 :: x15 :: x16 :: x17 :: x18 :: (b, T, cs') :: M) I, w1 = g'.w := g.mut_ex 19 (cs := cs) rfl h hh
def G.st20 {x0 x1 x2 x3 x4 x5 x6 x7 x8 x9 x10 x11 x12 x13 x14 x15 x16 x17 x18 x19 : Blk} {b : Nat} {T : TypeId} {cs : List Value} {M : List Blk} (g : G w0 X (x0 :: x1 :: x2 :: x3 :: x4 :: x5 :: x6 :: x7 :: x8 :: x9 :: x10 :: x11 :: x12 :: x13 :: x14 :: x15 :: x16 :: x17 :: x18 :: x19 :: (b, T, cs) :: M) I) (i : Nat) (v : Value) : G w0 X (x0 :: x1 :: x2 :: x3 :: x4 :: x5 :: x6 :: x7 :: x8 :: x9 :: x10 :: x11 :: x12 :: x13 :: x14 :: x15 :: x16 :: x17 :: x18 :: x19 :: (b, T, cs.set i v) :: M) I := g.st 20 (cs := cs) rfl i v
@[go_sem] theorem G.cell20 {x0 x1 x2 x3 x4 x5 x6 x7 x8 x9 x10 x11 x12 x13 x14 x15 x16 x17 x18 x19 : Blk} {b : Nat} {T : TypeId} {cs : List Value} {M : List Blk} (g : G w0 X (x0 :: x1 :: x2 :: x3 :: x4 :: x5 :: x6 :: x7 :: x8 :: x9 :: x10 :: x11 :: x12 :: x13 :: x14 :: x15 :: x16 :: x17 :: x18 :: x19 :: (b, T, cs) :: M) I) (i : Nat) : g.w.cell? ⟨b, i, none⟩ = cs[i]? := g.cell_n (n := 20) rfl i
@[go_sem] theorem G.frozen20 {x0 x1 x2 x3 x4 x5 x6 x7 x8 x9 x10 x11 x12 x13 x14 x15 x16 x17 x18 x19 : Blk} {b : Nat} {T : TypeId} {cs : List Value} {M : List Blk} (g : G w0 X (x0 :: x1 :: x2 :: x3 :: x4 :: x5 :: x6 :: x7 :: x8 :: x9 :: x10 :: x11 :: x12 :: x13 :: x14 :: x15 :: x16 :: x17 :: x18 :: x19 :: (b, T, cs) :: M) I) (i : Nat) : g.w.frozen? ⟨b, i, none⟩ = false := g.frozen_n (n := 20) rfl i
@[go_sem] theorem G.set20 {x0 x1 x2 x3 x4 x5 x6 x7 x8 x9 x10 x11 x12 x13 x14 x15 x16 x17 x18 x19 : Blk} {b : Nat} {T : TypeId} {cs : List Value} {M : List Blk} (g : G w0 X (x0 :: x1 :: x2 :: x3 :: x4 :: x5 :: x6 :: x7 :: x8 :: x9 :: x10 :: x11 :: x12 :: x13 :: x14 :: x15 :: x16 :: x17 :: x18 :: x19 :: (b, T, cs) :: M) I) (i : Nat) (v : Value) : g.w.setCell ⟨b, i, none⟩ v = (g.st20 i v).mark.w := rfl
theorem G.blk20 {x0 x1 x2 x3 x4 x5 x6 x7 x8 x9 x10 x11 x12 x13 x14 x15 x16 x17 x18 x19 : Blk} {b : Nat} {T : TypeId} {cs : List Value} {M : List Blk} (g : G w0 X (x0 :: x1 :: x2 :: x3 :: x4 :: x5 :: x6 :: x7 :: x8 :: x9 :: x10 :: x11 :: x12 :: x13 :: x14 :: x15 :: x16 :: x17 :: x18 :: x19 :: (b, T, cs) :: M) I) : g.w.heap[b]? = some (.cells cs.toArray T (0, 0)) := g.own (b, T, cs) (List.mem_of_getElem? (i := 20) rfl)
theorem G.mut20 {x0 x1 x2 x3 x4 x5 x6 x7 x8 x9 x10 x11 x12 x13 x14 x15 x16 x17 x18 x19 : Blk} {b : Nat} {T : TypeId} {cs : List Value} {M : List Blk} (g : G w0 X (x0 :: x1 :: x2 :: x3 :: x4 :: x5 :: x6 :: x7 :: x8 :: x9 :: x10 :: x11 :: x12 :: x13 :: x14 :: x15 :: x16 :: x17 :: x18 :: x19 :: (b, T, cs) :: M) I) {cs' : List Value} {w1 : World} (h : Chg [b] g.w w1) (hh : w1.heap[b]? = some (.cells cs'.toArray T (0, 0))) : ∃ g' : G w0 X (x0 :: x1 :: x2 :: x3 :: x4 :: x5 :: x6 :: x7 :: x8 :: x9 :: x10 :: x11 :: x12 :: x13 :: x14 :: x15 :: x16 :: x17 :: x18 :: x19 :: (b, T, cs') :: M) I, w1 = g'.w := g.mut_ex 20 (cs := cs) rfl h hh
def G.st21 {x0 x1 x2 x3 x4 x5 x6 x7 x8 x9 x10 x11 x12 x13 x14 x15 x16 x17 x18 x19 x20 : Blk} {b : Nat} {T : TypeId} {cs : List Value} {M : List Blk} (g : G w0 X (x0 :: x1 :: x2 :: x3 :: x4 :: x5 :: x6 :: x7 :: x8 :: x9 :: x10 :: x11 :: x12 :: x13 :: x14 :: x15 :: x16 :: x17 :: x18 :: x19 :: x20 :: (b, T, cs) :: M) I) (i : Nat) (v : Value) : G w0 X (x0 :: x1 :: x2 :: x3 :: x4 :: x5 :: x6 :: x7 :: x8 :: x9 :: x10 :: x11 :: x12 :: x13 :: x14 :: x15 :: x16 :: x17 :: x18 :: x19 :: x20 :: (b, T, cs.set i v) :: M) I := g.st 21 (cs := cs) rfl i v
@[go_sem] theorem G.cell21 {x0 x1 x2 x3 x4 x5 x6 x7 x8 x9 x10 x11 x12 x13 x14 x15 x16 x17 x18 x19 x20 : Blk} {b : Nat} {T : TypeId} {cs : List Value} {M : List Blk} (g : G w0 X (x0 :: x1 :: x2 :: x3 :: x4 :: x5 :: x6 :: x7 :: x8 :: x9 :: x10 :: x11 :: x12 :: x13 :: x14 :: x15 :: x16 :: x17 :: x18 :: x19 :: x20 :: (b, T, cs) :: M) I) (i : Nat) : g.w.cell? ⟨b, i, none⟩ = cs[i]? := g.cell_n (n := 21) rfl i
@[go_sem] theorem G.frozen21 {x0 x1 x2 x3 x4 x5 x6 x7 x8 x9 x10 x11 x12 x13 x14 x15 x16 x17 x18 x19 x20 : Blk} {b : Nat} {T : TypeId} {cs : List Value} {M : List Blk} (g : G w0 X (x0 :: x1 :: x2 :: x3 :: x4 :: x5 :: x6 :: x7 :: x8 :: x9 :: x10 :: x11 :: x12 :: x13 :: x14 :: x15 :: x16 :: x17 :: x18 :: x19 :: x20 :: (b, T, cs) :: M) I) (i : Nat) : g.w.frozen? ⟨b, i, none⟩ = false := g.frozen_n (n := 21) rfl i
@[go_sem] theorem G.set21 {x0 x1 x2 x3 x4 x5 x6 x7 x8 x9 x10 x11 x12 x13 x14 x15 x16 x17 x18 x19 x20 : Blk} {b : Nat} {T : TypeId} {cs : List Value} {M : List Blk} (g : G w0 X (x0 :: x1 :: x2 :: x3 :: x4 :: x5 :: x6 :: x7 :: x8 :: x9 :: x10 :: x11 :: x12 :: x13 :: x14 :: x15 :: x16 :: x17 :: x18 :: x19 :: x20 :: (b, T, cs) :: M) I) (i : Nat) (v : Value) : g.w.setCell ⟨b, i, none⟩ v = (g.st21 i v).mark.w := rfl
theorem G.blk21 {x0 x1 x2 x3 x4 x5 x6 x7 x8 x9 x10 x11 x12 x13 x14 x15 x16 x17 x18 x19 x20 : Blk} {b : Nat} {T : TypeId} {cs : List Value} {M : List Blk} (g : G w0 X (x0 :: x1 :: x2 :: x3 :: x4 :: x5 :: x6 :: x7 :: x8 :: x9 :: x10 :: x11 :: x12 :: x13 :: x14 :: x15 :: x16 :: x17 :: x18 :: x19 :: x20 :: (b, T, cs) :: M) I) : g.w.heap[b]? = some (.cells cs.toArray T (0, 0)) := g.own (b, T, cs) (List.mem_of_getElem? (i := 21) rfl)
theorem G.mut21 {x0 x1 x2 x3 x4 x5 x6 x7 x8 x9 x10 x11 x12 x13 x14 x15 x16 x17 x18 x19 x20 : Blk} {b : Nat} {T : TypeId} {cs : List Value} {M : List Blk} (g : G w0 X (x0 :: x1 :: x2 :: x3 :: x4 :: x5 :: x6 :: x7 :: x8 :: x9 :: x10 :: x11 :: x12 :: x13 :: x14 :: x15 :: x16 :: x17 :: x18 :: x19 :: x20 :: (b, T, cs) :: M) I) {cs' : List Value} {w1 : World} (h : Chg [b] g.w w1) (hh : w1.heap[b]? = some (.cells cs'.toArray T (0, 0))) : ∃ g' : G w0 X (x0 :: x1 :: x2 :: x3 :: x4 :: x5 :: x6 :: x7 :: x8 :: x9 :: x10 :: x11 :: x12 :: x13 :: x14 :: x15 :: x16 :: x17 :: x18 :: x19 :: x20 :: (b, T, cs') :: M) I, w1 = g'.w := g.mut_ex 21 (cs := cs) rfl h hh
def G.st22 {x0 x1 x2 x3 x4 x5 x6 x7 x8 x9 x10 x11 x12 x13 x14 x15 x16 x17 x18 x19 x20 x21 : Blk} {b : Nat} {T : TypeId} {cs : List Value} {M : List Blk} (g : G w0 X (x0 :: x1 :: x2 :: x3 :: x4 :: x5 :: x6 :: x7 :: x8 :: x9 :: x10 :: x11 :: x12 :: x13 :: x14 :: x15 :: x16 :: x17 :: x18 :: x19 :: x20 :: x21 :: (b, T, cs) :: M) I) (i : Nat) (v : Value) : G w0 X (x0 :: x1 :: x2 :: x3 :: x4 :: x5 :: x6 :: x7 :: x8 :: x9 :: x10 :: x11 :: x12 :: x13 :: x14 :: x15 :: x16 :: x17 :: x18 :: x19 :: x20 :: x21 :: (b, T, cs.set i v) :: M) I := g.st 22 (cs := cs) rfl i v
@[go_sem] theorem G.cell22 {x0 x1 x2 x3 x4 x5 x6 x7 x8 x9 x10 x11 x12 x13 x14 x15 x16 x17 x18 x19 x20 x21 : Blk} {b : Nat} {T : TypeId} {cs : List Value} {M : List Blk} (g : G w0 X (x0 :: x1 :: x2 :: x3 :: x4 :: x5 :: x6 :: x7 :: x8 :: x9 :: x10 :: x11 :: x12 :: x13 :: x14 :: x15 :: x16 :: x17 :: x18 :: x19 :: x20 :: x21 :: (b, T, cs) :: M) I) (i : Nat) : g.w.cell? ⟨b, i, none⟩ = cs[i]? := g.cell_n (n := 22) rfl i
@[go_sem] theorem G.frozen22 {x0 x1 x2 x3 x4 x5 x6 x7 x8 x9 x10 x11 x12 x13 x14 x15 x16 x17 x18 x19 x20 x21 : Blk} {b : Nat} {T : TypeId} {cs : List Value} {M : List Blk} (g : G w0 X (x0 :: x1 :: x2 :: x3 :: x4 :: x5 :: x6 :: x7 :: x8 :: x9 :: x10 :: x11 :: x12 :: x13 :: x14 :: x15 :: x16 :: x17 :: x18 :: x19 :: x20 :: x21 :: (b, T, cs) :: M) I) (i : Nat) : g.w.frozen? ⟨b, i, none⟩ = false := g.frozen_n (n := 22) rfl i
@[go_sem] theorem G.set22 {x0 x1 x2 x3 x4 x5 x6 x7 x8 x9 x10 x11 x12 x13 x14 x15 x16 x17 x18 x19 x20 x21 : Blk} {b : Nat} {T : TypeId} {cs : List Value} {M : List Blk} (g : G w0 X (x0 :: x1 :: x2 :: x3 :: x4 :: x5 :: x6 :: x7 :: x8 :: x9 :: x10 :: x11 :: x12 :: x13 :: x14 :: x15 :: x16 :: x17 :: x18 :: x19 :: x20 :: x21 :: (b, T, cs) :: M) I) (i : Nat) (v : Value) : g.w.setCell ⟨b, i, none⟩ v = (g.st22 i v).mark.w := rfl
theorem G.blk22 {x0 x1 x2 x3 x4 x5 x6 x7 x8 x9 x10 x11 x12 x13 x14 x15 x16 x17 x18 x19 x20 x21 : Blk} {b : Nat} {T : TypeId} {cs : List Value} {M : List Blk} (g : G w0 X (x0 :: x1 :: x2 :: x3 :: x4 :: x5 :: x6 :: x7 :: x8 :: x9 :: x10 :: x11 :: x12 :: x13 :: x14 :: x15 :: x16 :: x17 :: x18 :: x19 :: x20 :: x21 :: (b, T, cs) :: M) I) : g.w.heap[b]? = some (.cells cs.toArray T (0, 0)) := g.own (b, T, cs) (List.mem_of_getElem? (i := 22) rfl)
theorem G.mut22 {x0 x1 x2 x3 x4 x5 x6 x7 x8 x9 x10 x11 x12 x13 x14 x15 x16 x17 x18 x19 x20 x21 : Blk} {b : Nat} {T : TypeId} {cs : List Value} {M : List Blk} (g : G w0 X (x0 :: x1 :: x2 :: x3 :: x4 :: x5 :: x6 :: x7 :: x8 :: x9 :: x10 :: x11 :: x12 :: x13 :: x14 :: x15 :: x16 :: x17 :: x18 :: x19 :: x20 :: x21 :: (b, T, cs) :: M) I) {cs' : List Value} {w1 : World} (h : Chg [b] g.w w1) (hh : w1.heap[b]? = some (.cells cs'.toArray T (0, 0))) : ∃ g' : G w0 X (x0 :: x1 :: x2 :: x3 :: x4 :: x5 :: x6 :: x7 :: x8 :: x9 :: x10 :: x11 :: x12 :: x13 :: x14 :: x15 :: x16 :: x17 :: x18 :: x19 :: x20 :: x21 :: (b, T, cs') :: M) I, w1 = g'.w := g.mut_ex 22 (cs := cs) rfl h hh
def G.st23 {x0 x1 x2 x3 x4 x5 x6 x7 x8 x9 x10 x11 x12 x13 x14 x15 x16 x17 x18 x19 x20 x21 x22 : Blk} {b : Nat} {T : TypeId} {cs : List Value} {M : List Blk} (g : G w0 X (x0 :: x1 :: x2 :: x3 :: x4 :: x5 :: x6 :: x7 :: x8 :: x9 :: x10 :: x11 :: x12 :: x13 :: x14 :: x15 :: x16 :: x17 :: x18 :: x19 :: x20 :: x21 :: x22 :: (b, T, cs) :: M) I) (i : Nat) (v : Value) : G w0 X (x0 :: x1 :: x2 :: x3 :: x4 :: x5 :: x6 :: x7 :: x8 :: x9 :: x10 :: x11 :: x12 :: x13 :: x14 :: x15 :: x16 :: x17 :: x18 :: x19 :: x20 :: x21 :: x22 :: (b, T, cs.set i v) :: M) I := g.st 23 (cs := cs) rfl i v
@[go_sem] theorem G.cell23 {x0 x1 x2 x3 x4 x5 x6 x7 x8 x9 x10 x11 x12 x13 x14 x15 x16 x17 x18 x19 x20 x21 x22 : Blk} {b : Nat} {T : TypeId} {cs : List Value} {M : List Blk} (g : G w0 X (x0 :: x1 :: x2 :: x3 :: x4 :: x5 :: x6 :: x7 :: x8 :: x9 :: x10 :: x11 :: x12 :: x13 :: x14 :: x15 :: x16 :: x17 :: x18 :: x19 :: x20 :: x21 :: x22 :: (b, T, cs) :: M) I) (i : Nat) : g.w.cell? ⟨b, i, none⟩ = cs[i]? := g.cell_n (n := 23) rfl i
@[go_sem] theorem G.frozen23 {x0 x1 x2 x3 x4 x5 x6 x7 x8 x9 x10 x11 x12 x13 x14 x15 x16 x17 x18 x19 x20 x21 x22 : Blk} {b : Nat} {T : TypeId} {cs : List Value} {M : List Blk} (g : G w0 X (x0 :: x1 :: x2 :: x3 :: x4 :: x5 :: x6 :: x7 :: x8 :: x9 :: x10 :: x11 :: x12 :: x13 :: x14 :: x15 :: x16 :: x17 :: x18 :: x19 :: x20 :: x21 :: x22 :: (b, T, cs) :: M) I) (i : Nat) : g.w.frozen? ⟨b, i, none⟩ = false := g.frozen_n (n := 23) rfl i
@[go_sem] theorem G.set23 {x0 x1 x2 x3 x4 x5 x6 x7 x8 x9 x10 x11 x12 x13 x14 x15 x16 x17 x18 x19 x20 x21 x22 : Blk} {b : Nat} {T : TypeId} {cs : List Value} {M : List Blk} (g : G w0 X (x0 :: x1 :: x2 :: x3 :: x4 :: x5 :: x6 :: x7 :: x8 :: x9 :: x10 :: x11 :: x12 :: x13 :: x14 :: x15 :: x16 :: x17 :: x18 :: x19 :: x20 :: x21 :: x22 :: (b, T, cs) :: M) I) (i : Nat) (v : Value) : g.w.setCell ⟨b, i, none⟩ v = (g.st23 i v).mark.w := rfl
theorem G.blk23 {x0 x1 x2 x3 x4 x5 x6 x7 x8 x9 x10 x11 x12 x13 x14 x15 x16 x17 x18 x19 x20 x21 x22 : Blk} {b : Nat} {T : TypeId} {cs : List Value} {M : List Blk} (g : G w0 X (x0 :: x1 :: x2 :: x3 :: x4 :: x5 :: x6 :: x7 :: x8 :: x9 :: x10 :: x11 :: x12 :: x13 :: x14 :: x15 :: x16 :: x17 :: x18 :: x19 :: x20 :: x21 :: x22 :: (b, T, cs) :: M) I) : g.w.heap[b]? = some (.cells cs.toArray T (0, 0)) := g.own (b, T, cs) (List.mem_of_getElem? (i := 23) rfl)
theorem G.mut23 {x0 x1 x2 x3 x4 x5 x6 x7 x8 x9 x10 x11 x12 x13 x14 x15 x16 x17 x18 x19 x20 x21 x22 : Blk} {b : Nat} {T : TypeId} {cs : List Value} {M : List Blk} (g : G w0 X (x0 :: x1 :: x2 :: x3 :: x4 :: x5 :: x6 :: x7 :: x8 :: x9 :: x10 :: x11 :: x12 :: x13 :: x14 :: x15 :: x16 :: x17 :: x18 :: x19 :: x20 :: x21 :: x22 :: (b, T, cs) :: M) I) {cs' : List Value} {w1 : World} (h : Chg [b] g.w w1) (hh : w1.heap[b]? = some (.cells cs'.toArray T (0, 0))) : ∃ g' : G w0 X (x0 :: x1 :: x2 :: x3 :: x4 :: x5 :: x6 :: x7 :: x8 :: x9 :: x10 :: x11 :: x12 :: x13 :: x14 :: x15 :: x16 :: x17 :: x18 :: x19 :: x20 :: x21 :: x22 :: (b, T, cs') :: M) I, w1 = g'.w := g.mut_ex 23 (cs := cs) rfl h hh
end
/-- Some of the blocks are forgotten. -/
theorem G.less {w0 : World} {X : List Nat} {M M' : List Blk} {I : List Frag} (g : G w0 X M I) (h : M'.Sublist M) : ∃ g' : G w0 X M' I, g.w = g'.w :=
  ⟨⟨g.w, g.chg, fun m hm => g.own m (h.subset hm), fun m hm => g.may m (h.subset hm), g.dist.sublist (h.map _), g.sub, fun f hf k o hk =>
    ⟨(g.keep f hf k o hk).1, fun hm => (g.keep f hf k o hk).2 ((h.map _).subset hm)⟩⟩, rfl⟩
theorem G.less_ex {w0 : World} {X : List Nat} {M M' : List Blk} {I : List Frag} {p : Prop} (g : G w0 X M I) (h : M'.Sublist M) (hp : p) : ∃ g' : G w0 X M' I, g.w = g'.w ∧ p := by
  obtain ⟨g', e⟩ := g.less h
  exact ⟨g', e, hp⟩
/-- What the blocks M hold. -/
@[reducible] def HeldL : List Blk → World → Prop
  | [], _ => True
  | (b, T, cs) :: M, w => (∀ i, w.cell? ⟨b, i, none⟩ = cs[i]?) ∧ HeldL M w
@[reducible] def G.held {w0 : World} {X : List Nat} {M : List Blk} {I : List Frag} (g : G w0 X M I) : World → Prop := fun w => HeldL M w
@[reducible] def HeldN : List Bool → List Blk → World → Prop
  | true :: bs, (b, _, cs) :: M, w => (∀ i, w.cell? ⟨b, i, none⟩ = cs[i]?) ∧ HeldN bs M w
  | false :: bs, _ :: M, w => HeldN bs M w
  | _, _, _ => True
@[reducible] def G.heldN {w0 : World} {X : List Nat} {M : List Blk} {I : List Frag} (_g : G w0 X M I) (bs : List Bool) : World → Prop := fun w => HeldN bs M w
theorem calls_g {P : Program} {f : FuncId} {args : Array Value} {w : World} {R : Ending → World → Prop} (h : ∀ g : G w [] [] [], Calls P f args g.w R) : Calls P f args w R := h (G.start w)
end Go.Proofs.Ytcaaecmbbbdopaa.GW
namespace Go.Proofs.Ytcaaecmbbbdopaa.GW
open Go
open Go.RowKit
section
variable {w0 : World} {X : List Nat} {M : List Blk} {I : List Frag}
/-- a call that makes a block that its caller owns from then on -/
theorem G.own_ex (g : G w0 X M I) {w1 : World} {b : Nat} {T : TypeId} {cs : List Value} (h : Below g.w.heap.size g.w w1) (hb : g.w.heap.size ≤ b) (hh : w1.heap[b]? = some (.cells cs.toArray T (0, 0))) :
    ∃ g' : G w0 X ((b, T, cs) :: M) I, w1 = g'.w := by
  refine ⟨⟨w1, (g.call h).chg, ?_, ?_, ?_, (g.call h).sub, ?_⟩, rfl⟩
  · intro m hm
    rcases List.mem_cons.1 hm with rfl | hm
    · exact hh
    · exact (g.call h).own m hm
  · intro m hm
    rcases List.mem_cons.1 hm with rfl | hm
    · exact .inl (Nat.le_trans g.chg.size hb)
    · exact g.may m hm
  · rw [List.map_cons, List.nodup_cons]
    refine ⟨?_, g.dist⟩
    intro hm
    obtain ⟨m, hm, e⟩ := List.mem_map.1 hm
    have := g.lt hm
    simp only at e
    omega
  · intro f hf k o hk
    obtain ⟨h1, h2⟩ := g.keep f hf k o hk
    refine ⟨h1, ?_⟩
    rw [List.map_cons, List.mem_cons]
    rintro (e | e)
    · have := Frag.lt (g.sub f hf) hk
      simp only at e
      omega
    · exact h2 e
theorem G.as {M' : List Blk} (g : G w0 X M I) (h : M = M') : ∃ g' : G w0 X M' I, g.w = g'.w := by subst h; exact ⟨g, rfl⟩
/-- the blocks that the call owns were not there when it began -/
theorem G.fresh (g : G w0 [] M I) {m : Blk} (h : m ∈ M) : w0.heap.size ≤ m.1 := by
  rcases g.may m h with h | h
  · exact h
  · cases h
end
end Go.Proofs.Ytcaaecmbbbdopaa.GW
namespace Go.Proofs.Ytcaaecmbbbdopaa.GW
open Go
open Go.RowKit NL
/-- limbs as cells -/
def u32s (l : List Nat) : List Value := l.map fun x : Nat => .int .u32 (x : Int)
theorem u32s_len (l : List Nat) : (u32s l).length = l.length := by simp [u32s]
theorem u32s_get (l : List Nat) (j : Nat) : (u32s l)[j]? = (l[j]?).map fun x : Nat => Value.int .u32 (x : Int) := by simp [u32s]
theorem u32s_getD {l : List Nat} {j : Nat} (h : j < l.length) : (u32s l)[j]? = some (.int .u32 ((l.getD j 0 : Nat) : Int)) := by
  rw [u32s_get, List.getD_eq_getElem?_getD, List.getElem?_eq_getElem h]; rfl
theorem u32s_set (l : List Nat) (j : Nat) (x : Nat) : (u32s l).set j (.int .u32 (x : Int)) = u32s (l.set j x) := by
  unfold u32s; rw [List.map_set]
theorem u32s_zeros (n : Nat) : u32s (List.replicate n 0) = List.replicate n (.int .u32 0) := by simp [u32s]
theorem u32s_nil : u32s [] = [] := rfl
theorem u32s_append (l m : List Nat) : u32s (l ++ m) = u32s l ++ u32s m := by simp [u32s]
theorem u32s_one (l : List Nat) : ∀ u ∈ u32s l, u.oneCell' = true := by
  intro u hu
  obtain ⟨x, _, rfl⟩ := List.mem_map.1 hu
  rfl
/-- the whole of a world's memory -/
@[reducible] def heapOf (w : World) : Frag := fun k => w.heap[k]?
theorem heapOf_sub (w : World) : (heapOf w).sub w := fun _ _ h => h
/-- a single block -/
def blkF (b : Nat) (o : Obj) : Frag := fun k => if k = b then some o else none
theorem blkF_sub {b : Nat} {o : Obj} {w : World} (h : w.heap[b]? = some o) : (blkF b o).sub w := by
  intro k o' hk
  unfold blkF at hk
  split at hk
  · next e => subst e; rw [← hk]; exact h
  · cases hk
theorem blkF_at {b k : Nat} {o o' : Obj} (h : blkF b o k = some o') : k = b := by
  unfold blkF at h; split at h
  · assumption
  · cases h
/-- In part f, the slice at A reads as the limbs l. -/
def Frag.Lim (f : Frag) (A : Option Addr) (l : List Nat) : Prop :=
  0 < l.length → ∃ b o, A = some ⟨b, o, none⟩ ∧ ∃ cs T fr, f b = some (.cells cs T fr) ∧ ∀ j, j < l.length → cs[o + j]? = some (.int .u32 ((l.getD j 0 : Nat) : Int))
/-- a slice value of limbs: the address A, the capacity c -/
structure Frag.Sl (f : Frag) (A : Option Addr) (c : Nat) (l : List Nat) : Prop where
  cap : l.length ≤ c
  max : c ≤ 9223372036854775807
  len : l.length ≤ 140737488355328
  lim : f.Lim A l
  ok : Ok l
@[reducible] def SlW (w : World) (A : Option Addr) (c : Nat) (l : List Nat) : Prop := (heapOf w).Sl A c l
theorem Frag.Lim.mono {f f' : Frag} {A : Option Addr} {l : List Nat} (h : f.Lim A l) (s : ∀ k o, f k = some o → f' k = some o) : f'.Lim A l := by
  intro hl
  obtain ⟨b, o, e, cs, T, fr, hb, hc⟩ := h hl
  exact ⟨b, o, e, cs, T, fr, s _ _ hb, hc⟩
theorem Frag.Sl.mono {f f' : Frag} {A : Option Addr} {c : Nat} {l : List Nat} (h : f.Sl A c l) (s : ∀ k o, f k = some o → f' k = some o) : f'.Sl A c l :=
  ⟨h.cap, h.max, h.len, h.lim.mono s, h.ok⟩
theorem Frag.Sl.at {f : Frag} {w : World} {A : Option Addr} {c : Nat} {l : List Nat} (h : f.Sl A c l) (s : f.sub w) : SlW w A c l := h.mono s
theorem Frag.Sl.nil (f : Frag) (A : Option Addr) : f.Sl A 0 [] := ⟨Nat.le_refl _, by decide, by simp, fun h => absurd h (by simp), Ok.nil⟩
theorem Frag.Sl.nilc (f : Frag) (A : Option Addr) {c : Nat} (h : c ≤ 140737488355328) : f.Sl A c [] := ⟨Nat.zero_le _, by omega, by simp, fun h => absurd h (by simp), Ok.nil⟩
theorem getD_take {l : List Nat} {j k : Nat} (h : j < k) : (l.take k).getD j 0 = l.getD j 0 := by
  rw [List.getD_eq_getElem?_getD, List.getD_eq_getElem?_getD, List.getElem?_take_of_lt h]
theorem Frag.Sl.take {f : Frag} {A : Option Addr} {c : Nat} {l : List Nat} (h : f.Sl A c l) (k : Nat) : f.Sl A c (l.take k) := by
  refine ⟨?_, h.max, by rw [List.length_take]; exact Nat.le_trans (Nat.min_le_right _ _) h.len, ?_, h.ok.take k⟩
  · rw [List.length_take]; exact Nat.le_trans (Nat.min_le_right _ _) h.cap
  · intro hl
    rw [List.length_take] at hl
    obtain ⟨b, o, e, cs, T, fr, hb, hc⟩ := h.lim (by omega)
    refine ⟨b, o, e, cs, T, fr, hb, fun j hj => ?_⟩
    rw [List.length_take] at hj
    rw [getD_take (by omega)]
    exact hc j (by omega)
theorem Frag.Lim.cell {f : Frag} {A : Option Addr} {l : List Nat} (h : f.Lim A l) (hl : 0 < l.length) : ∃ b o, A = some ⟨b, o, none⟩ ∧ ∀ j, j < l.length → f.cell ⟨b, o + j, none⟩ = some (.int .u32 ((l.getD j 0 : Nat) : Int)) := by
  obtain ⟨b, o, e, cs, T, fr, hb, hc⟩ := h hl
  refine ⟨b, o, e, fun j hj => ?_⟩
  unfold Frag.cell
  simp only [hb]
  exact hc j hj
theorem limW_cell {w : World} {A : Option Addr} {l : List Nat} (h : (heapOf w).Lim A l) (hl : 0 < l.length) : ∃ b o, A = some ⟨b, o, none⟩ ∧ ∀ j, j < l.length → w.cell? ⟨b, o + j, none⟩ = some (.int .u32 ((l.getD j 0 : Nat) : Int)) := by
  obtain ⟨b, o, e, cs, T, fr, hb, hc⟩ := h hl
  refine ⟨b, o, e, fun j hj => ?_⟩
  have : w.heap[b]? = some (.cells cs T fr) := hb
  simp only [World.cell?, this]
  exact hc j hj
section
variable {w0 : World} {X : List Nat} {M : List Blk} {I : List Frag}
theorem G.cell_of (g : G w0 X M I) {f : Frag} (hf : f ∈ I) {A : Option Addr} {l : List Nat} (h : f.Lim A l) (hl : 0 < l.length) : ∃ b o, A = some ⟨b, o, none⟩ ∧ ∀ j, j < l.length → g.w.cell? ⟨b, o + j, none⟩ = some (.int .u32 ((l.getD j 0 : Nat) : Int)) :=
  limW_cell (h.mono (g.sub f hf)) hl
theorem G.sl (g : G w0 X M I) {f : Frag} (hf : f ∈ I) {A : Option Addr} {c : Nat} {l : List Nat} (h : f.Sl A c l) : SlW g.w A c l := h.at (g.sub f hf)
/-- the beginning of a walk whose call writes nothing that was there -/
def G.begin (w : World) : G w [] [] [heapOf w] :=
  ⟨w, Chg.refl _ w, by simp, by simp, by simp, by intro f hf; rw [List.mem_singleton.1 hf]; exact heapOf_sub w, by intro f hf k o hk; exact ⟨.inr (by simp), by simp⟩⟩
end
theorem calls_b {P : Program} {f : FuncId} {args : Array Value} {w : World} {R : Ending → World → Prop} (h : ∀ g : G w [] [] [heapOf w], Calls P f args g.w R) : Calls P f args w R := h (G.begin w)
/-- new memory: F lies in w', and nothing of it lay in w -/
structure New (w w' : World) (F : Frag) : Prop where
  below : Below w.heap.size w w'
  sub : F.sub w'
  new : ∀ k o, F k = some o → w.heap.size ≤ k
section
variable {w0 : World} {X : List Nat} {M : List Blk} {I : List Frag}
theorem G.new_ex (g : G w0 X M I) {w1 : World} {F : Frag} (h : New g.w w1 F) : ∃ g' : G w0 X M (F :: I), w1 = g'.w := g.part_ex h.below h.sub h.new
/-- at the end: a block of the call's own is handed out -/
theorem G.give (g : G w0 [] M I) {b : Nat} {T : TypeId} {cs : List Value} (h : (b, T, cs) ∈ M) : New w0 g.w (blkF b (.cells cs.toArray T (0, 0))) :=
  ⟨g.below, blkF_sub (g.own _ h), by intro k o hk; rw [blkF_at hk]; exact g.fresh h⟩
/-- at the end: nothing is handed out -/
theorem G.none (g : G w0 [] M I) : New w0 g.w (fun _ => none) := ⟨g.below, (by intro k o h; cases h), (by intro k o h; cases h)⟩
/-- at the end: what a callee has made is handed out -/
theorem G.pass (g : G w0 [] M I) {F : Frag} (h : F ∈ I) (hn : ∀ k o, F k = some o → w0.heap.size ≤ k) : New w0 g.w F := ⟨g.below, g.sub F h, hn⟩
end
theorem lim_blk {b : Nat} {T : TypeId} (l : List Nat) {fr : Nat × Nat} : (blkF b (.cells (u32s l).toArray T fr)).Lim (some ⟨b, 0, none⟩) l := by
  intro hl
  refine ⟨b, 0, rfl, (u32s l).toArray, T, fr, by simp [blkF], fun j hj => ?_⟩
  rw [Nat.zero_add, List.getElem?_toArray]
  exact u32s_getD hj
theorem sl_blk {b : Nat} {T : TypeId} {l : List Nat} {fr : Nat × Nat} {c : Nat} (h : l.length ≤ c) (hc : c ≤ 140737488355328) (hk : Ok l) : (blkF b (.cells (u32s l).toArray T fr)).Sl (some ⟨b, 0, none⟩) c l := ⟨h, by omega, by omega, lim_blk l, hk⟩
/-- What is returned is the number n, in new memory. -/
def RNat (n : Nat) (w : World) (e : Ending) (w' : World) : Prop := ∃ A c F, e = .returned (.slice A (limbs n).length c) ∧ F.Sl A c (limbs n) ∧ New w w' F
end Go.Proofs.Ytcaaecmbbbdopaa.GW
namespace Go.Proofs.Ytcaaecmbbbdopaa.GW
open Go
open Go.RowKit NL
/-- memory without one block -/
def heapBut (w : World) (b : Nat) : Frag := fun k => if k = b then none else w.heap[k]?
theorem heapBut_sub (w : World) (b : Nat) : (heapBut w b).sub w := by
  intro k o h; unfold heapBut at h; split at h
  · cases h
  · exact h
/-- the beginning of a walk whose call may write block b -/
def G.beginM (w : World) (b : Nat) (T : TypeId) (cs : List Value) (h : w.heap[b]? = some (.cells cs.toArray T (0, 0))) : G w [b] [(b, T, cs)] [heapBut w b] :=
  ⟨w, Chg.refl _ w, by intro m hm; rw [List.mem_singleton.1 hm]; exact h, by intro m hm; rw [List.mem_singleton.1 hm]; exact .inr (List.mem_singleton.2 rfl), by simp,
    by intro f hf; rw [List.mem_singleton.1 hf]; exact heapBut_sub w b,
    by
      intro f hf k o hk
      rw [List.mem_singleton.1 hf] at hk
      have hne : k ≠ b := by rintro rfl; unfold heapBut at hk; rw [if_pos rfl] at hk; cases hk
      exact ⟨.inr (by simpa using hne), by simpa using hne⟩⟩
theorem calls_m {P : Program} {f : FuncId} {args : Array Value} {w : World} {R : Ending → World → Prop} {b : Nat} {T : TypeId} {cs : List Value} (hb : w.heap[b]? = some (.cells cs.toArray T (0, 0)))
    (h : ∀ g : G w [b] [(b, T, cs)] [heapBut w b], Calls P f args g.w R) : Calls P f args w R := h (G.beginM w b T cs hb)
/-- the slice does not lie in block b -/
def Apart (A : Option Addr) (b : Nat) : Prop := ∀ a, A = some a → a.block ≠ b
theorem Frag.Sl.but {w : World} {b : Nat} {A : Option Addr} {c : Nat} {l : List Nat} (h : SlW w A c l) (hne : Apart A b) : (heapBut w b).Sl A c l := by
  refine ⟨h.cap, h.max, h.len, ?_, h.ok⟩
  intro hl
  obtain ⟨b', o, e, cs, T, fr, hb, hc⟩ := h.lim hl
  refine ⟨b', o, e, cs, T, fr, ?_, hc⟩
  unfold heapBut
  rw [if_neg (hne _ e)]; exact hb
end Go.Proofs.Ytcaaecmbbbdopaa.GW
namespace Go.Proofs.Ytcaaecmbbbdopaa.GW
open Go
open Go.RowKit NL
theorem sl_trim {f : Frag} {A : Option Addr} {c : Nat} {l : List Nat} (h : f.Sl A c l) : f.Sl A c (limbs (val l)) := by
  rw [← limbs_prefix h.ok]; exact h.take _
theorem rnat_end {w0 : World} {M : List Blk} {I : List Frag} (g : G w0 [] M I) {b : Nat} {T : TypeId} {pre : List Nat} {c v : Nat} (hm : (b, T, u32s pre) ∈ M) (hok : Ok pre) (hc : pre.length ≤ c) (hc2 : c ≤ 140737488355328) (hv : val pre = v) :
    RNat v w0 (.returned (.slice (some ⟨b, 0, none⟩) (limbs (val pre)).length c)) g.w := by
  subst hv
  exact ⟨_, c, _, rfl, sl_trim (sl_blk hc hc2 hok), g.give hm⟩
end Go.Proofs.Ytcaaecmbbbdopaa.GW
namespace Go.Proofs.Ytcaaecmbbbdopaa.GW
open Go
open Go.RowKit NL
theorem lim_cells {F : Frag} {A : Option Addr} {l : List Nat} (h : F.Lim A l) (hl : 0 < l.length) : ∃ b o, A = some ⟨b, o, none⟩ ∧ ∀ j, j < l.length → ∀ (w0 : World) (X : List Nat) (M : List Blk) (I : List Frag) (g : G w0 X M I), F ∈ I → g.w.cell? ⟨b, o + j, none⟩ = some (.int .u32 ((l.getD j 0 : Nat) : Int)) := by
  obtain ⟨b, o, e, hc⟩ := h.cell hl
  exact ⟨b, o, e, fun j hj w0 X M I g hf => g.frag_cell hf (hc j hj)⟩
end Go.Proofs.Ytcaaecmbbbdopaa.GW
