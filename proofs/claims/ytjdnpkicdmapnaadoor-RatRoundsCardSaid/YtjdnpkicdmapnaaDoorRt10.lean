/- Plain facts and contracts of functions of the program, out of walks. Their conditions stand ahead of each. -/
import Derived.Test.YtjdnpkicdmapnaaDoorRt1
import Derived.Test.YtjdnpkicdmapnaaDoorRt9
import Derived.Below
import Derived.Deep.Draws
import Derived.Laws.NewBlocks
import Derived.Laws.OwnMore
import Derived.Laws.Rows
import Derived.WalkKit
set_option linter.unusedVariables false
set_option linter.unusedSimpArgs false
namespace Go.Proofs.YtjdnpkicdmapnaaDoor.GW
open Go
open Go.RowKit
section
variable {w0 : World} {X : List Nat} {M : List Blk} {I : List Frag}
/-- a call that makes a block that its caller owns from then on -/
theorem G.own_ex (g : G w0 X M I) {w1 : World} {b : Nat} {T : TypeId} {cs : List Value} (h : Below g.w.heap.size g.w w1) (hb : g.w.heap.size ≤ b) (hh : w1.heap[b]? = some (.cells cs.toArray T (0, 0))) :
    ∃ g' : G w0 X ((b, T, cs) :: M) I, w1 = g'.w := by
  refine ⟨⟨w1, (g.call h).chg, ?_, ?_, ?_, (g.call h).sub, ?_⟩, rfl⟩
  · intro m hm
    rcases List.mem_cons.1 hm with rfl | hm
    · exact hh
    · exact (g.call h).own m hm
  · intro m hm
    rcases List.mem_cons.1 hm with rfl | hm
    · exact .inl (Nat.le_trans g.chg.size hb)
    · exact g.may m hm
  · rw [List.map_cons, List.nodup_cons]
    refine ⟨?_, g.dist⟩
    intro hm
    obtain ⟨m, hm, e⟩ := List.mem_map.1 hm
    have := g.lt hm
    simp only at e
    omega
  · intro f hf k o hk
    obtain ⟨h1, h2⟩ := g.keep f hf k o hk
    refine ⟨h1, ?_⟩
    rw [List.map_cons, List.mem_cons]
    rintro (e | e)
    · have := Frag.lt (g.sub f hf) hk
      simp only at e
      omega
    · exact h2 e
theorem G.as {M' : List Blk} (g : G w0 X M I) (h : M = M') : ∃ g' : G w0 X M' I, g.w = g'.w := by subst h; exact ⟨g, rfl⟩
/-- the blocks that the call owns were not there when it began -/
theorem G.fresh (g : G w0 [] M I) {m : Blk} (h : m ∈ M) : w0.heap.size ≤ m.1 := by
  rcases g.may m h with h | h
  · exact h
  · cases h
end
end Go.Proofs.YtjdnpkicdmapnaaDoor.GW
namespace Go.Proofs.YtjdnpkicdmapnaaDoor.GW
open Go
open Go.RowKit NL
/-- limbs as cells -/
def u32s (l : List Nat) : List Value := l.map fun x : Nat => .int .u32 (x : Int)
theorem u32s_len (l : List Nat) : (u32s l).length = l.length := by simp [u32s]
theorem u32s_get (l : List Nat) (j : Nat) : (u32s l)[j]? = (l[j]?).map fun x : Nat => Value.int .u32 (x : Int) := by simp [u32s]
theorem u32s_getD {l : List Nat} {j : Nat} (h : j < l.length) : (u32s l)[j]? = some (.int .u32 ((l.getD j 0 : Nat) : Int)) := by
  rw [u32s_get, List.getD_eq_getElem?_getD, List.getElem?_eq_getElem h]; rfl
theorem u32s_set (l : List Nat) (j : Nat) (x : Nat) : (u32s l).set j (.int .u32 (x : Int)) = u32s (l.set j x) := by
  unfold u32s; rw [List.map_set]
theorem u32s_zeros (n : Nat) : u32s (List.replicate n 0) = List.replicate n (.int .u32 0) := by simp [u32s]
theorem u32s_nil : u32s [] = [] := rfl
theorem u32s_append (l m : List Nat) : u32s (l ++ m) = u32s l ++ u32s m := by simp [u32s]
theorem u32s_one (l : List Nat) : ∀ u ∈ u32s l, u.oneCell' = true := by
  intro u hu
  obtain ⟨x, _, rfl⟩ := List.mem_map.1 hu
  rfl
/-- the whole of a world's memory -/
@[reducible] def heapOf (w : World) : Frag := fun k => w.heap[k]?
theorem heapOf_sub (w : World) : (heapOf w).sub w := fun _ _ h => h
/-- a single block -/
def blkF (b : Nat) (o : Obj) : Frag := fun k => if k = b then some o else none
theorem blkF_sub {b : Nat} {o : Obj} {w : World} (h : w.heap[b]? = some o) : (blkF b o).sub w := by
  intro k o' hk
  unfold blkF at hk
  split at hk
  · next e => subst e; rw [← hk]; exact h
  · cases hk
theorem blkF_at {b k : Nat} {o o' : Obj} (h : blkF b o k = some o') : k = b := by
  unfold blkF at h; split at h
  · assumption
  · cases h
/-- In part f, the slice at A reads as the limbs l. -/
def Frag.Lim (f : Frag) (A : Option Addr) (l : List Nat) : Prop :=
  0 < l.length → ∃ b o, A = some ⟨b, o, none⟩ ∧ ∃ cs T fr, f b = some (.cells cs T fr) ∧ ∀ j, j < l.length → cs[o + j]? = some (.int .u32 ((l.getD j 0 : Nat) : Int))
/-- a slice value of limbs: the address A, the capacity c -/
structure Frag.Sl (f : Frag) (A : Option Addr) (c : Nat) (l : List Nat) : Prop where
  cap : l.length ≤ c
  max : c ≤ 9223372036854775807
  len : l.length ≤ 140737488355328
  lim : f.Lim A l
  ok : Ok l
@[reducible] def SlW (w : World) (A : Option Addr) (c : Nat) (l : List Nat) : Prop := (heapOf w).Sl A c l
theorem Frag.Lim.mono {f f' : Frag} {A : Option Addr} {l : List Nat} (h : f.Lim A l) (s : ∀ k o, f k = some o → f' k = some o) : f'.Lim A l := by
  intro hl
  obtain ⟨b, o, e, cs, T, fr, hb, hc⟩ := h hl
  exact ⟨b, o, e, cs, T, fr, s _ _ hb, hc⟩
theorem Frag.Sl.mono {f f' : Frag} {A : Option Addr} {c : Nat} {l : List Nat} (h : f.Sl A c l) (s : ∀ k o, f k = some o → f' k = some o) : f'.Sl A c l :=
  ⟨h.cap, h.max, h.len, h.lim.mono s, h.ok⟩
theorem Frag.Sl.at {f : Frag} {w : World} {A : Option Addr} {c : Nat} {l : List Nat} (h : f.Sl A c l) (s : f.sub w) : SlW w A c l := h.mono s
theorem Frag.Sl.nil (f : Frag) (A : Option Addr) : f.Sl A 0 [] := ⟨Nat.le_refl _, by decide, by simp, fun h => absurd h (by simp), Ok.nil⟩
theorem Frag.Sl.nilc (f : Frag) (A : Option Addr) {c : Nat} (h : c ≤ 140737488355328) : f.Sl A c [] := ⟨Nat.zero_le _, by omega, by simp, fun h => absurd h (by simp), Ok.nil⟩
theorem getD_take {l : List Nat} {j k : Nat} (h : j < k) : (l.take k).getD j 0 = l.getD j 0 := by
  rw [List.getD_eq_getElem?_getD, List.getD_eq_getElem?_getD, List.getElem?_take_of_lt h]
theorem Frag.Sl.take {f : Frag} {A : Option Addr} {c : Nat} {l : List Nat} (h : f.Sl A c l) (k : Nat) : f.Sl A c (l.take k) := by
  refine ⟨?_, h.max, by rw [List.length_take]; exact Nat.le_trans (Nat.min_le_right _ _) h.len, ?_, h.ok.take k⟩
  · rw [List.length_take]; exact Nat.le_trans (Nat.min_le_right _ _) h.cap
  · intro hl
    rw [List.length_take] at hl
    obtain ⟨b, o, e, cs, T, fr, hb, hc⟩ := h.lim (by omega)
    refine ⟨b, o, e, cs, T, fr, hb, fun j hj => ?_⟩
    rw [List.length_take] at hj
    rw [getD_take (by omega)]
    exact hc j (by omega)
theorem Frag.Lim.cell {f : Frag} {A : Option Addr} {l : List Nat} (h : f.Lim A l) (hl : 0 < l.length) : ∃ b o, A = some ⟨b, o, none⟩ ∧ ∀ j, j < l.length → f.cell ⟨b, o + j, none⟩ = some (.int .u32 ((l.getD j 0 : Nat) : Int)) := by
  obtain ⟨b, o, e, cs, T, fr, hb, hc⟩ := h hl
  refine ⟨b, o, e, fun j hj => ?_⟩
  unfold Frag.cell
  simp only [hb]
  exact hc j hj
theorem limW_cell {w : World} {A : Option Addr} {l : List Nat} (h : (heapOf w).Lim A l) (hl : 0 < l.length) : ∃ b o, A = some ⟨b, o, none⟩ ∧ ∀ j, j < l.length → w.cell? ⟨b, o + j, none⟩ = some (.int .u32 ((l.getD j 0 : Nat) : Int)) := by
  obtain ⟨b, o, e, cs, T, fr, hb, hc⟩ := h hl
  refine ⟨b, o, e, fun j hj => ?_⟩
  have : w.heap[b]? = some (.cells cs T fr) := hb
  simp only [World.cell?, this]
  exact hc j hj
section
variable {w0 : World} {X : List Nat} {M : List Blk} {I : List Frag}
theorem G.cell_of (g : G w0 X M I) {f : Frag} (hf : f ∈ I) {A : Option Addr} {l : List Nat} (h : f.Lim A l) (hl : 0 < l.length) : ∃ b o, A = some ⟨b, o, none⟩ ∧ ∀ j, j < l.length → g.w.cell? ⟨b, o + j, none⟩ = some (.int .u32 ((l.getD j 0 : Nat) : Int)) :=
  limW_cell (h.mono (g.sub f hf)) hl
theorem G.sl (g : G w0 X M I) {f : Frag} (hf : f ∈ I) {A : Option Addr} {c : Nat} {l : List Nat} (h : f.Sl A c l) : SlW g.w A c l := h.at (g.sub f hf)
/-- the beginning of a walk whose call writes nothing that was there -/
def G.begin (w : World) : G w [] [] [heapOf w] :=
  ⟨w, Chg.refl _ w, by simp, by simp, by simp, by intro f hf; rw [List.mem_singleton.1 hf]; exact heapOf_sub w, by intro f hf k o hk; exact ⟨.inr (by simp), by simp⟩⟩
end
theorem calls_b {P : Program} {f : FuncId} {args : Array Value} {w : World} {R : Ending → World → Prop} (h : ∀ g : G w [] [] [heapOf w], Calls P f args g.w R) : Calls P f args w R := h (G.begin w)
/-- new memory: F lies in w', and nothing of it lay in w -/
structure New (w w' : World) (F : Frag) : Prop where
  below : Below w.heap.size w w'
  sub : F.sub w'
  new : ∀ k o, F k = some o → w.heap.size ≤ k
section
variable {w0 : World} {X : List Nat} {M : List Blk} {I : List Frag}
theorem G.new_ex (g : G w0 X M I) {w1 : World} {F : Frag} (h : New g.w w1 F) : ∃ g' : G w0 X M (F :: I), w1 = g'.w := g.part_ex h.below h.sub h.new
/-- at the end: a block of the call's own is handed out -/
theorem G.give (g : G w0 [] M I) {b : Nat} {T : TypeId} {cs : List Value} (h : (b, T, cs) ∈ M) : New w0 g.w (blkF b (.cells cs.toArray T (0, 0))) :=
  ⟨g.below, blkF_sub (g.own _ h), by intro k o hk; rw [blkF_at hk]; exact g.fresh h⟩
/-- at the end: nothing is handed out -/
theorem G.none (g : G w0 [] M I) : New w0 g.w (fun _ => none) := ⟨g.below, (by intro k o h; cases h), (by intro k o h; cases h)⟩
/-- at the end: what a callee has made is handed out -/
theorem G.pass (g : G w0 [] M I) {F : Frag} (h : F ∈ I) (hn : ∀ k o, F k = some o → w0.heap.size ≤ k) : New w0 g.w F := ⟨g.below, g.sub F h, hn⟩
end
theorem lim_blk {b : Nat} {T : TypeId} (l : List Nat) {fr : Nat × Nat} : (blkF b (.cells (u32s l).toArray T fr)).Lim (some ⟨b, 0, none⟩) l := by
  intro hl
  refine ⟨b, 0, rfl, (u32s l).toArray, T, fr, by simp [blkF], fun j hj => ?_⟩
  rw [Nat.zero_add, List.getElem?_toArray]
  exact u32s_getD hj
theorem sl_blk {b : Nat} {T : TypeId} {l : List Nat} {fr : Nat × Nat} {c : Nat} (h : l.length ≤ c) (hc : c ≤ 140737488355328) (hk : Ok l) : (blkF b (.cells (u32s l).toArray T fr)).Sl (some ⟨b, 0, none⟩) c l := ⟨h, by omega, by omega, lim_blk l, hk⟩
/-- What is returned is the number n, in new memory. -/
def RNat (n : Nat) (w : World) (e : Ending) (w' : World) : Prop := ∃ A c F, e = .returned (.slice A (limbs n).length c) ∧ F.Sl A c (limbs n) ∧ New w w' F
end Go.Proofs.YtjdnpkicdmapnaaDoor.GW
namespace Go.Proofs.YtjdnpkicdmapnaaDoor.GW
open Go
open Go.RowKit NL
/-- memory without one block -/
def heapBut (w : World) (b : Nat) : Frag := fun k => if k = b then none else w.heap[k]?
theorem heapBut_sub (w : World) (b : Nat) : (heapBut w b).sub w := by
  intro k o h; unfold heapBut at h; split at h
  · cases h
  · exact h
/-- the beginning of a walk whose call may write block b -/
def G.beginM (w : World) (b : Nat) (T : TypeId) (cs : List Value) (h : w.heap[b]? = some (.cells cs.toArray T (0, 0))) : G w [b] [(b, T, cs)] [heapBut w b] :=
  ⟨w, Chg.refl _ w, by intro m hm; rw [List.mem_singleton.1 hm]; exact h, by intro m hm; rw [List.mem_singleton.1 hm]; exact .inr (List.mem_singleton.2 rfl), by simp,
    by intro f hf; rw [List.mem_singleton.1 hf]; exact heapBut_sub w b,
    by
      intro f hf k o hk
      rw [List.mem_singleton.1 hf] at hk
      have hne : k ≠ b := by rintro rfl; unfold heapBut at hk; rw [if_pos rfl] at hk; cases hk
      exact ⟨.inr (by simpa using hne), by simpa using hne⟩⟩
theorem calls_m {P : Program} {f : FuncId} {args : Array Value} {w : World} {R : Ending → World → Prop} {b : Nat} {T : TypeId} {cs : List Value} (hb : w.heap[b]? = some (.cells cs.toArray T (0, 0)))
    (h : ∀ g : G w [b] [(b, T, cs)] [heapBut w b], Calls P f args g.w R) : Calls P f args w R := h (G.beginM w b T cs hb)
/-- the slice does not lie in block b -/
def Apart (A : Option Addr) (b : Nat) : Prop := ∀ a, A = some a → a.block ≠ b
theorem Frag.Sl.but {w : World} {b : Nat} {A : Option Addr} {c : Nat} {l : List Nat} (h : SlW w A c l) (hne : Apart A b) : (heapBut w b).Sl A c l := by
  refine ⟨h.cap, h.max, h.len, ?_, h.ok⟩
  intro hl
  obtain ⟨b', o, e, cs, T, fr, hb, hc⟩ := h.lim hl
  refine ⟨b', o, e, cs, T, fr, ?_, hc⟩
  unfold heapBut
  rw [if_neg (hne _ e)]; exact hb
end Go.Proofs.YtjdnpkicdmapnaaDoor.GW
namespace Go.Proofs.YtjdnpkicdmapnaaDoor.GW
open Go
open Go.RowKit NL
theorem sl_trim {f : Frag} {A : Option Addr} {c : Nat} {l : List Nat} (h : f.Sl A c l) : f.Sl A c (limbs (val l)) := by
  rw [← limbs_prefix h.ok]; exact h.take _
theorem rnat_end {w0 : World} {M : List Blk} {I : List Frag} (g : G w0 [] M I) {b : Nat} {T : TypeId} {pre : List Nat} {c v : Nat} (hm : (b, T, u32s pre) ∈ M) (hok : Ok pre) (hc : pre.length ≤ c) (hc2 : c ≤ 140737488355328) (hv : val pre = v) :
    RNat v w0 (.returned (.slice (some ⟨b, 0, none⟩) (limbs (val pre)).length c)) g.w := by
  subst hv
  exact ⟨_, c, _, rfl, sl_trim (sl_blk hc hc2 hok), g.give hm⟩
end Go.Proofs.YtjdnpkicdmapnaaDoor.GW
namespace Go.Proofs.YtjdnpkicdmapnaaDoor.GW
open Go
open Go.RowKit NL
theorem lim_cells {F : Frag} {A : Option Addr} {l : List Nat} (h : F.Lim A l) (hl : 0 < l.length) : ∃ b o, A = some ⟨b, o, none⟩ ∧ ∀ j, j < l.length → ∀ (w0 : World) (X : List Nat) (M : List Blk) (I : List Frag) (g : G w0 X M I), F ∈ I → g.w.cell? ⟨b, o + j, none⟩ = some (.int .u32 ((l.getD j 0 : Nat) : Int)) := by
  obtain ⟨b, o, e, hc⟩ := h.cell hl
  exact ⟨b, o, e, fun j hj w0 X M I g hf => g.frag_cell hf (hc j hj)⟩
end Go.Proofs.YtjdnpkicdmapnaaDoor.GW
