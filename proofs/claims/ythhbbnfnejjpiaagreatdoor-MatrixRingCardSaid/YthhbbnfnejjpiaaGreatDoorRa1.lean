/- Plain facts and contracts of functions of the program, out of walks. Their conditions stand ahead of each. -/
import Derived.Below
import Derived.Deep.Draws
import Derived.Laws.NewBlocks
import Derived.Laws.OwnMore
import Derived.Laws.Rows
import Derived.WalkKit
import Derived.RangeFuncNested
import Derived.Maps.AppendAt
import Derived.Lib.BitFns
import Derived.Lib.ItoaNum
import Derived.Laws.CopyOwn
import Derived.Deep.RegionHeld3
import Derived.OrdersIn
import Derived.Laws.CopyRow
import Derived.Lib.TrailingZeros
import Derived.Deep.RegionLaw
import Derived.OwnWalk
import Derived.RangeFuncWrites
set_option linter.unusedVariables false
set_option linter.unusedSimpArgs false
namespace Go.Proofs.YthhbbnfnejjpiaaGreatDoor.NL
open Go
/-- the number that limbs stand for -/
def val : List Nat → Nat
 | [] => 0
 | x :: l => x + 4294967296 * val l
/-- all limbs are less than 2^32 -/
def Ok (l : List Nat) : Prop := ∀ x ∈ l, x < 4294967296
theorem Ok.nil : Ok [] := by intro x h; cases h
theorem Ok.cons {x : Nat} {l : List Nat} (hx : x < 4294967296) (h : Ok l) : Ok (x :: l) := by
 intro y hy; rcases List.mem_cons.1 hy with rfl | hy; exact hx; exact h y hy
theorem Ok.head {x : Nat} {l : List Nat} (h : Ok (x :: l)) : x < 4294967296 := h x (List.mem_cons_self ..)
theorem Ok.tail {x : Nat} {l : List Nat} (h : Ok (x :: l)) : Ok l := fun y hy => h y (List.mem_cons_of_mem _ hy)
theorem Ok.append {l m : List Nat} (h : Ok l) (k : Ok m) : Ok (l ++ m) := by
 intro x hx; rcases List.mem_append.1 hx with hx | hx; exact h x hx; exact k x hx
theorem Ok.take {l : List Nat} (h : Ok l) (k : Nat) : Ok (l.take k) := fun x hx => h x (List.mem_of_mem_take hx)
theorem Ok.drop {l : List Nat} (h : Ok l) (k : Nat) : Ok (l.drop k) := fun x hx => h x (List.mem_of_mem_drop hx)
theorem Ok.get {l : List Nat} (h : Ok l) {k : Nat} (hk : k < l.length) : l[k] < 4294967296 := h _ (List.getElem_mem hk)
theorem Ok.getD {l : List Nat} (h : Ok l) (k : Nat) : l.getD k 0 < 4294967296 := by
 rw [List.getD_eq_getElem?_getD]
 rcases Nat.lt_or_ge k l.length with hk | hk
 ·rw [List.getElem?_eq_getElem hk]; exact h.get hk
 ·rw [List.getElem?_eq_none hk]; decide
theorem Ok.set {l : List Nat} (h : Ok l) (k : Nat) {x : Nat} (hx : x < 4294967296) : Ok (l.set k x) := by
 intro y hy
 rcases List.mem_or_eq_of_mem_set hy with hy | rfl
 ·exact h y hy
 ·exact hx
theorem Ok.zeros (n : Nat) : Ok (List.replicate n 0) := by intro x hx; rw [(List.mem_replicate.1 hx).2]; decide
theorem val_append (l m : List Nat) : val (l ++ m) = val l + 4294967296 ^ l.length * val m := by
 induction l with
 | nil => simp [val]
 | cons x l ih =>
  rw [List.cons_append, val, val, ih, List.length_cons, Nat.pow_succ, Nat.mul_add, ← Nat.mul_assoc, Nat.mul_comm 4294967296 (4294967296 ^ l.length), Nat.add_assoc]
theorem val_single (x : Nat) : val [x] = x := by simp [val]
theorem val_snoc (l : List Nat) (x : Nat) : val (l ++ [x]) = val l + 4294967296 ^ l.length * x := by rw [val_append, val_single]
theorem val_zeros (n : Nat) : val (List.replicate n 0) = 0 := by
 induction n with
 | zero => rfl
 | succ n ih => rw [List.replicate_succ, val, ih]
theorem val_lt : ∀ {l : List Nat}, Ok l → val l < 4294967296 ^ l.length := by
 intro l
 induction l with
 | nil => intro _; simp [val]
 | cons x l ih =>
  intro h
  have h1 := ih h.tail
  have h2 := h.head
  rw [val, List.length_cons, Nat.pow_succ, Nat.mul_comm]
  have : val l * 4294967296 + 4294967296 ≤ 4294967296 ^ l.length * 4294967296 := by
   have := Nat.mul_le_mul_right 4294967296 (Nat.succ_le_of_lt h1)
   rw [Nat.succ_mul] at this
   exact this
  omega
theorem take_succ {l : List Nat} {k : Nat} (hk : k < l.length) : l.take (k + 1) = l.take k ++ [l[k]] := by rw [List.take_succ_eq_append_getElem hk]
theorem val_take_succ {l : List Nat} {k : Nat} (hk : k < l.length) : val (l.take (k + 1)) = val (l.take k) + 4294967296 ^ k * l[k] := by
 rw [take_succ hk, val_snoc, List.length_take, Nat.min_eq_left (by omega)]
theorem val_take_getD (l : List Nat) (k : Nat) : val (l.take (k + 1)) = val (l.take k) + 4294967296 ^ k * l.getD k 0 := by
 rcases Nat.lt_or_ge k l.length with hk | hk
 ·rw [val_take_succ hk, List.getD_eq_getElem?_getD, List.getElem?_eq_getElem hk]; rfl
 ·rw [List.getD_eq_getElem?_getD, List.getElem?_eq_none hk, List.take_of_length_le (by omega), List.take_of_length_le hk]; simp
theorem val_take_all {l : List Nat} {k : Nat} (hk : l.length ≤ k) : val (l.take k) = val l := by rw [List.take_of_length_le hk]
theorem val_split (l : List Nat) (k : Nat) (hk : k ≤ l.length) : val l = val (l.take k) + 4294967296 ^ k * val (l.drop k) := by
 have h := val_append (l.take k) (l.drop k)
 rw [List.take_append_drop, List.length_take, Nat.min_eq_left hk] at h
 exact h
theorem val_drop_getD (l : List Nat) (k : Nat) : val (l.drop k) = l.getD k 0 + 4294967296 * val (l.drop (k + 1)) := by
 rcases Nat.lt_or_ge k l.length with hk | hk
 ·rw [List.drop_eq_getElem_cons hk, val, List.getD_eq_getElem?_getD, List.getElem?_eq_getElem hk]; rfl
 ·rw [List.drop_of_length_le hk, List.drop_of_length_le (by omega), List.getD_eq_getElem?_getD, List.getElem?_eq_none hk]; rfl
/-- the limbs of a number, none of them behind the last one that is not 0 -/
def limbs (n : Nat) : List Nat := if h : n = 0 then [] else n % 4294967296 :: limbs (n / 4294967296)
termination_by n
decreasing_by exact Nat.div_lt_self (Nat.pos_of_ne_zero h) (by decide)
theorem limbs_zero : limbs 0 = [] := by rw [limbs]; rfl
theorem limbs_pos {n : Nat} (h : n ≠ 0) : limbs n = n % 4294967296 :: limbs (n / 4294967296) := by rw [limbs, dif_neg h]
theorem val_limbs (n : Nat) : val (limbs n) = n := by
 induction n using Nat.strongRecOn with
 | ind n ih =>
  by_cases h : n = 0
  ·subst h; rw [limbs_zero]; rfl
  ·rw [limbs_pos h, val, ih _ (Nat.div_lt_self (Nat.pos_of_ne_zero h) (by decide))]; omega
theorem ok_limbs (n : Nat) : Ok (limbs n) := by
 induction n using Nat.strongRecOn with
 | ind n ih =>
  by_cases h : n = 0
  ·subst h; rw [limbs_zero]; exact Ok.nil
  ·rw [limbs_pos h]; exact Ok.cons (Nat.mod_lt _ (by decide)) (ih _ (Nat.div_lt_self (Nat.pos_of_ne_zero h) (by decide)))
theorem limbs_nil {n : Nat} : limbs n = [] ↔ n = 0 := by
 constructor
 ·intro h
  have := val_limbs n
  rw [h] at this
  exact this.symm
 ·rintro rfl; exact limbs_zero
/-- the last limb is not 0 -/
def Trim (l : List Nat) : Prop := ∀ k, l.length = k + 1 → l.getD k 0 ≠ 0
theorem Trim.nil : Trim [] := by intro k hk; cases hk
theorem trim_limbs (n : Nat) : Trim (limbs n) := by
 induction n using Nat.strongRecOn with
 | ind n ih =>
  by_cases h : n = 0
  ·subst h; rw [limbs_zero]; exact Trim.nil
  ·rw [limbs_pos h]
   have h1 := ih _ (Nat.div_lt_self (Nat.pos_of_ne_zero h) (by decide : 1 < 4294967296))
   intro k hk
   cases k with
   | zero =>
    rw [List.length_cons] at hk
    have h2 : limbs (n / 4294967296) = [] := List.eq_nil_of_length_eq_zero (by omega)
    rw [limbs_nil] at h2
    simp
    omega
   | succ k =>
    rw [List.length_cons] at hk
    have := h1 k (by omega)
    simpa using this
theorem limbs_val : ∀ {l : List Nat}, Ok l → Trim l → limbs (val l) = l := by
 intro l
 induction l with
 | nil => intro _ _; exact limbs_zero
 | cons x l ih =>
  intro h t
  have hx := h.head
  have t' : Trim l := by
   intro k hk
   have := t (k + 1) (by simp [hk])
   simpa using this
  have hne : val (x :: l) ≠ 0 := by
   intro h0
   rw [val] at h0
   have hx0 : x = 0 := by omega
   have hl : val l = 0 := by omega
   have e := ih h.tail t'
   rw [hl, limbs_zero] at e
   subst e
   have := t 0 rfl
   simp at this
   omega
  rw [limbs_pos hne, val, show (x + 4294967296 * val l) % 4294967296 = x by omega, show (x + 4294967296 * val l) / 4294967296 = val l by omega, ih h.tail t']
theorem limbs_len (n k : Nat) : (limbs n).length ≤ k ↔ n < 4294967296 ^ k := by
 constructor
 ·intro h
  have h1 := val_lt (ok_limbs n)
  rw [val_limbs] at h1
  exact Nat.lt_of_lt_of_le h1 (Nat.pow_le_pow_right (by decide) h)
 ·intro h
  rcases Nat.lt_or_ge k (limbs n).length with hl | hl
  ·exfalso
   -- the last limb is not 0
   obtain ⟨m, hm⟩ : ∃ m, (limbs n).length = m + 1 := ⟨(limbs n).length - 1, by omega⟩
   have t := trim_limbs n m hm
   have s := val_split (limbs n) m (by omega)
   rw [val_limbs, val_drop_getD] at s
   have : 4294967296 ^ k ≤ 4294967296 ^ m := Nat.pow_le_pow_right (by decide) (by omega)
   have h2 : 4294967296 ^ m * 1 ≤ 4294967296 ^ m * ((limbs n).getD m 0 + 4294967296 * val ((limbs n).drop (m + 1))) := Nat.mul_le_mul_left _ (by omega)
   omega
  ·exact hl
theorem limbs_len_mono {m n : Nat} (h : m ≤ n) : (limbs m).length ≤ (limbs n).length :=
 (limbs_len m _).2 (Nat.lt_of_le_of_lt h ((limbs_len n _).1 (Nat.le_refl _)))
theorem limbs_len_le_of_ok {l : List Nat} (h : Ok l) : (limbs (val l)).length ≤ l.length := (limbs_len _ _).2 (val_lt h)
theorem limbs_lt_of_len {m n : Nat} (h : (limbs m).length < (limbs n).length) : m < n := by
 rcases Nat.lt_or_ge m n with h1 | h1
 ·exact h1
 ·have := limbs_len_mono h1; omega
theorem limbs_one {n : Nat} (h0 : n ≠ 0) (h : n < 4294967296) : limbs n = [n] := by
 rw [limbs_pos h0, show n % 4294967296 = n by omega, show n / 4294967296 = 0 by omega, limbs_zero]
/-- Two lists of one length are compared by their last limbs that differ. -/
theorem val_lt_of_drop {l m : List Nat} (hl : Ok l) (hlen : l.length = m.length) {k : Nat} (hk : k < l.length) (he : l.drop (k + 1) = m.drop (k + 1)) (h : l.getD k 0 < m.getD k 0) : val l < val m := by
 have s1 := val_split l k (by omega)
 have s2 := val_split m k (by omega)
 rw [val_drop_getD] at s1 s2
 rw [he] at s1
 have b := val_lt (hl.take k)
 rw [List.length_take, Nat.min_eq_left (by omega)] at b
 have h3 : 4294967296 ^ k * (l.getD k 0 + 4294967296 * val (m.drop (k + 1))) + 4294967296 ^ k ≤ 4294967296 ^ k * (m.getD k 0 + 4294967296 * val (m.drop (k + 1))) := by
  have := Nat.mul_le_mul_left (4294967296 ^ k) (show l.getD k 0 + 4294967296 * val (m.drop (k + 1)) + 1 ≤ m.getD k 0 + 4294967296 * val (m.drop (k + 1)) by omega)
  rw [Nat.mul_add _ _ 1, Nat.mul_one] at this
  exact this
 omega
end Go.Proofs.YthhbbnfnejjpiaaGreatDoor.NL
namespace Go.Proofs.YthhbbnfnejjpiaaGreatDoor.GW
open Go
open Go.RowKit
/-- short names for lemmas that the walks name often -/
theorem lz0 {α : Type} (a b : α) (as : List α) : (a :: as).set 0 b = b :: as := rfl
theorem lz1 {α : Type} (a b : α) (as : List α) (n : Nat) : (a :: as).set (n + 1) b = a :: as.set n b := rfl
theorem la0 : type_of% @List.getElem_toArray := @List.getElem_toArray
theorem la1 : type_of% @List.getElem_cons_zero := @List.getElem_cons_zero
theorem la2 : type_of% @List.getElem_cons_succ := @List.getElem_cons_succ
theorem la3 : type_of% @List.setIfInBounds_toArray := @List.setIfInBounds_toArray
/-- A part of memory. -/
def Frag := Nat → Option Obj
def Frag.sub (f : Frag) (w : World) : Prop := ∀ k o, f k = some o → w.heap[k]? = some o
def Frag.cell (f : Frag) (a : Addr) : Option Value :=
 match f a.block with
 | some (.cells c _ _) => if a.spot.isSome then none else c[a.off]?
 | _ => none
/-- Apart from the blocks named in X, what was there is as it was. -/
structure Chg (X : List Nat) (w w' : World) : Prop where
 os : w'.os = w.os
 tape : w'.tape = w.tape
 output : w'.output = w.output
 size : w.heap.size ≤ w'.heap.size
 block : ∀ k, k < w.heap.size → k ∉ X → w'.heap[k]? = w.heap[k]?
theorem Chg.refl (X : List Nat) (w : World) : Chg X w w := ⟨rfl, rfl, rfl, Nat.le_refl _, fun _ _ _ => rfl⟩
theorem Chg.trans {X : List Nat} {a b c : World} (h : Chg X a b) (k : Chg X b c) : Chg X a c :=
 ⟨k.os.trans h.os, k.tape.trans h.tape, k.output.trans h.output, Nat.le_trans h.size k.size, fun i hi hx => (k.block i (Nat.lt_of_lt_of_le hi h.size) hx).trans (h.block i hi hx)⟩
theorem Chg.of_below {w w' : World} (h : Below w.heap.size w w') : Chg [] w w' := ⟨h.os, h.tape, h.output, h.size, fun k hk _ => h.block k hk⟩
theorem Chg.below {w w' : World} (h : Chg [] w w') : Below w.heap.size w w' := ⟨h.os, h.tape, h.output, h.size, fun k hk => h.block k hk (by simp)⟩
abbrev Blk := Nat × TypeId × List Value
/-- The world of a walk: X: the blocks of the caller's that may be written; M: the blocks that the call owns; I: parts that stay. -/
structure G (w0 : World) (X : List Nat) (M : List Blk) (I : List Frag) where
 w : World
 chg : Chg X w0 w
 own : ∀ m ∈ M, w.heap[m.1]? = some (.cells m.2.2.toArray m.2.1 (0, 0))
 may : ∀ m ∈ M, w0.heap.size ≤ m.1 ∨ m.1 ∈ X
 dist : (M.map (·.1)).Nodup
 sub : ∀ f ∈ I, f.sub w
 keep : ∀ f ∈ I, ∀ k o, f k = some o → (w0.heap.size ≤ k ∨ k ∉ X) ∧ k ∉ M.map (·.1)
section
variable {w0 : World} {X : List Nat} {M : List Blk} {I : List Frag}
/-- the beginning of a walk -/
def G.start (w : World) : G w [] [] [] :=
 ⟨w, Chg.refl _ w, by simp, by simp, by simp, by simp, by simp⟩
/-- a part that is there, and that nobody writes -/
def G.see (g : G w0 X M I) (f : Frag) (h : f.sub g.w) (hk : ∀ k o, f k = some o → (w0.heap.size ≤ k ∨ k ∉ X) ∧ k ∉ M.map (·.1)) : G w0 X M (f :: I) :=
 ⟨g.w, g.chg, g.own, g.may, g.dist, by intro f' hf; rcases List.mem_cons.1 hf with rfl | hf; exact h; exact g.sub f' hf,
  by intro f' hf; rcases List.mem_cons.1 hf with rfl | hf; exact hk; exact g.keep f' hf⟩
theorem G.lt (g : G w0 X M I) {m : Blk} (h : m ∈ M) : m.1 < g.w.heap.size := by
 have := g.own m h
 rcases Nat.lt_or_ge m.1 g.w.heap.size with hlt | hge
 ·exact hlt
 ·rw [Array.getElem?_eq_none hge] at this; cases this
theorem Frag.lt {f : Frag} {w : World} (h : f.sub w) {k : Nat} {o : Obj} (hk : f k = some o) : k < w.heap.size := by
 have := h k o hk
 rcases Nat.lt_or_ge k w.heap.size with hlt | hge
 ·exact hlt
 ·rw [Array.getElem?_eq_none hge] at this; cases this
theorem Chg.alloc {X : List Nat} {a w : World} (h : Chg X a w) (o : Obj) : Chg X a (w.alloc o) :=
 h.trans ⟨rfl, rfl, rfl, by simp, fun k hk _ => Below.heap_alloc _ _ _ hk⟩
theorem Chg.setCell {X : List Nat} {a w : World} (h : Chg X a w) {p : Addr} (hp : a.heap.size ≤ p.block ∨ p.block ∈ X) (u : Value) : Chg X a (w.setCell p u) :=
 ⟨h.os, h.tape, h.output, by have := h.size; simpa [World.setCell] using this, fun k hk hx => by
  rw [Below.heap_setCell _ _ _ _ (by rintro rfl; rcases hp with hp | hp; omega; exact hx hp)]
  exact h.block k hk hx⟩
theorem Frag.sub_alloc {f : Frag} {w : World} (h : f.sub w) (o : Obj) : f.sub (w.alloc o) := fun k o' hk => by
 rw [Below.heap_alloc _ _ _ (Frag.lt h hk)]; exact h k o' hk
/-- a new block -/
def G.new (g : G w0 X M I) (cs : List Value) (T : TypeId) : G w0 X ((g.w.heap.size, T, cs) :: M) I :=
 ⟨g.w.alloc (.cells cs.toArray T), g.chg.alloc _,
  by
   intro m hm
   rcases List.mem_cons.1 hm with rfl | hm
   ·exact heap_alloc_new g.w _
   ·rw [Below.heap_alloc _ _ _ (g.lt hm)]; exact g.own m hm,
  by
   intro m hm
   rcases List.mem_cons.1 hm with rfl | hm
   ·exact .inl g.chg.size
   ·exact g.may m hm,
  by
   rw [List.map_cons, List.nodup_cons]
   refine ⟨?_, g.dist⟩
   intro hm
   obtain ⟨m, hm, e⟩ := List.mem_map.1 hm
   have := g.lt hm
   simp only at e
   omega,
  fun f hf => Frag.sub_alloc (g.sub f hf) _,
  by
   intro f hf k o hk
   obtain ⟨h1, h2⟩ := g.keep f hf k o hk
   refine ⟨h1, ?_⟩
   rw [List.map_cons, List.mem_cons]
   rintro (e | e)
   ·have := Frag.lt (g.sub f hf) hk
    simp only at e
    omega
   ·exact h2 e⟩
/-- a mark on a world that is to be named anew -/
def G.mark (g : G w0 X M I) : G w0 X M I := g
theorem G.any_mark {p : World → Prop} (g : G w0 X M I) (h : ∀ g' : G w0 X M I, p g'.w) : p g.mark.w := h _
@[go_sem] theorem G.alloc_eq (g : G w0 X M I) (cs : List Value) (T : TypeId) : g.w.alloc (.cells cs.toArray T (0, 0)) = (g.new cs T).mark.w := rfl
@[go_sem] theorem G.alloc_eq' (g : G w0 X M I) (n : Nat) (v : Value) (T : TypeId) : g.w.alloc (.cells (Array.replicate n v) T (0, 0)) = (g.new (List.replicate n v) T).mark.w := by
 rw [← List.toArray_replicate]; rfl
/-- a draw -/
def G.dr (g : G w0 X M I) (n : Nat) : G w0 X M I :=
 ⟨g.w.drewN n, ⟨g.chg.os, g.chg.tape, g.chg.output, g.chg.size, g.chg.block⟩, g.own, g.may, g.dist, g.sub, g.keep⟩
@[go_sem] theorem G.drew_eq (g : G w0 X M I) : g.w.drew = (g.dr 1).mark.w := rfl
@[go_sem] theorem G.drewN_eq (g : G w0 X M I) (n : Nat) : g.w.drewN n = (g.dr n).mark.w := rfl
theorem set_nth {b : Nat} {T : TypeId} {cs cs' : List Value} : ∀ {M : List Blk} {n : Nat}, M[n]? = some (b, T, cs) → (M.set n (b, T, cs')).map (·.1) = M.map (·.1) := by
 intro M
 induction M with
 | nil => intro n h; simp at h
 | cons m M ih =>
  intro n h
  cases n with
  | zero => simp at h; subst h; rfl
  | succ n => simp at h; simp [ih h]
theorem mem_set {α : Type} {x a : α} : ∀ {l : List α} {n : Nat}, x ∈ l.set n a → x = a ∨ ∃ m, m ≠ n ∧ l[m]? = some x := by
 intro l
 induction l with
 | nil => intro n h; simp at h
 | cons y l ih =>
  intro n h
  cases n with
  | zero =>
   simp at h
   rcases h with h | h
   ·exact .inl h
   ·obtain ⟨m, hm⟩ := List.getElem?_of_mem h
    exact .inr ⟨m + 1, by omega, by simpa using hm⟩
  | succ n =>
   simp at h
   rcases h with h | h
   ·exact .inr ⟨0, by omega, by simp [h]⟩
   ·rcases ih h with h | ⟨m, h1, h2⟩
    ·exact .inl h
    ·exact .inr ⟨m + 1, by omega, by simpa using h2⟩
theorem dist_ne {M : List Blk} (hd : (M.map (·.1)).Nodup) {i j : Nat} {x y : Blk} (hi : M[i]? = some x) (hj : M[j]? = some y) (hne : i ≠ j) : x.1 ≠ y.1 := by
 intro e
 have h1 : (M.map (·.1))[i]? = some x.1 := by simp [hi]
 have h2 : (M.map (·.1))[j]? = some x.1 := by simp [hj, e]
 have hl : i < (M.map (·.1)).length := by
  rcases Nat.lt_or_ge i (M.map (·.1)).length with h | h
  ·exact h
  ·rw [List.getElem?_eq_none h] at h1; cases h1
 exact hne ((List.getElem?_inj hl hd).1 (h1.trans h2.symm))
/-- block n has become another -/
def G.turn (g : G w0 X M I) (n : Nat) {b : Nat} {T : TypeId} {cs : List Value} (hn : M[n]? = some (b, T, cs)) (cs' : List Value) (w' : World)
  (hc : Chg X w0 w') (hh : w'.heap[b]? = some (.cells cs'.toArray T (0, 0))) (ho : ∀ k, k < g.w.heap.size → k ≠ b → w'.heap[k]? = g.w.heap[k]?) : G w0 X (M.set n (b, T, cs')) I :=
 ⟨w', hc,
  by
   intro m hm
   rcases mem_set hm with rfl | ⟨j, hj, hm⟩
   ·exact hh
   ·have hm' := List.mem_of_getElem? hm
    rw [ho _ (g.lt hm') (dist_ne g.dist hm hn hj)]
    exact g.own m hm',
  by
   intro m hm
   rcases mem_set hm with rfl | ⟨j, hj, hm⟩
   ·exact g.may (b, T, cs) (List.mem_of_getElem? hn)
   ·exact g.may _ (List.mem_of_getElem? hm),
  by rw [set_nth hn]; exact g.dist,
  by
   intro f hf k o hk
   have hne : k ≠ b := by
    rintro rfl
    exact (g.keep f hf k o hk).2 (List.mem_map.2 ⟨_, List.mem_of_getElem? hn, rfl⟩)
   rw [ho k (Frag.lt (g.sub f hf) hk) hne]
   exact g.sub f hf k o hk,
  by rw [set_nth hn]; exact g.keep⟩
def G.st (g : G w0 X M I) (n : Nat) {b : Nat} {T : TypeId} {cs : List Value} (hn : M[n]? = some (b, T, cs)) (i : Nat) (v : Value) : G w0 X (M.set n (b, T, cs.set i v)) I :=
 g.turn n hn _ (g.w.setCell ⟨b, i, none⟩ v) (g.chg.setCell (g.may _ (List.mem_of_getElem? hn)) v)
  (by
   have := g.own _ (List.mem_of_getElem? hn)
   simp only at this
   simp [World.setCell, Array.getElem?_modify, this])
  (fun k _ hk => Below.heap_setCell _ _ _ _ hk)
theorem G.cell_n (g : G w0 X M I) {n : Nat} {b : Nat} {T : TypeId} {cs : List Value} (hn : M[n]? = some (b, T, cs)) (i : Nat) : g.w.cell? ⟨b, i, none⟩ = cs[i]? :=
 (cell_of_row g.w b i cs.toArray T (0, 0) (g.own _ (List.mem_of_getElem? hn))).trans (by simp)
theorem G.frozen_n (g : G w0 X M I) {n : Nat} {b : Nat} {T : TypeId} {cs : List Value} (hn : M[n]? = some (b, T, cs)) (i : Nat) : g.w.frozen? ⟨b, i, none⟩ = false := by
 have := g.own _ (List.mem_of_getElem? hn)
 simp only at this
 simp [World.frozen?, this]
/-- a call that leaves what was there -/
def G.call (g : G w0 X M I) {w1 : World} (h : Below g.w.heap.size g.w w1) : G w0 X M I :=
 ⟨w1, g.chg.trans ⟨h.os, h.tape, h.output, h.size, fun k hk _ => h.block k hk⟩,
  fun m hm => (h.block _ (g.lt hm)).trans (g.own m hm), g.may, g.dist,
  fun f hf k o hk => (h.block _ (Frag.lt (g.sub f hf) hk)).trans (g.sub f hf k o hk), g.keep⟩
theorem G.call_ex (g : G w0 X M I) {w1 : World} (h : Below g.w.heap.size g.w w1) : ∃ g' : G w0 X M I, w1 = g'.w := ⟨g.call h, rfl⟩
/-- a call that leaves what was there, and makes a part that stays -/
theorem G.part_ex (g : G w0 X M I) {w1 : World} {f : Frag} (h : Below g.w.heap.size g.w w1) (hf : f.sub w1) (hn : ∀ k o, f k = some o → g.w.heap.size ≤ k) : ∃ g' : G w0 X M (f :: I), w1 = g'.w :=
 ⟨(g.call h).see f hf fun k o hk => ⟨.inl (Nat.le_trans g.chg.size (hn k o hk)), fun hm => by
  obtain ⟨m, hm, e⟩ := List.mem_map.1 hm
  have := g.lt hm
  have := hn k o hk
  omega⟩, rfl⟩
/-- a call that turns one of the blocks that the caller owns -/
theorem G.mut_ex (g : G w0 X M I) (n : Nat) {b : Nat} {T : TypeId} {cs cs' : List Value} {w1 : World} (hn : M[n]? = some (b, T, cs)) (h : Chg [b] g.w w1) (hh : w1.heap[b]? = some (.cells cs'.toArray T (0, 0))) :
  ∃ g' : G w0 X (M.set n (b, T, cs')) I, w1 = g'.w :=
 ⟨g.turn n hn cs' w1 ⟨h.os.trans g.chg.os, h.tape.trans g.chg.tape, h.output.trans g.chg.output, Nat.le_trans g.chg.size h.size, fun k hk hx => by
   rw [h.block k (Nat.lt_of_lt_of_le hk g.chg.size) (by
    intro hm
    obtain rfl : k = b := by simpa using hm
    rcases g.may _ (List.mem_of_getElem? hn) with h1 | h1
    ·simp only at h1; omega
    ·exact hx h1)]
   exact g.chg.block k hk hx⟩ hh (fun k hk hne => h.block k hk (by simpa using hne)), rfl⟩
theorem G.below (g : G w0 [] M I) : Below w0.heap.size w0 g.w := g.chg.below
theorem G.frag_cell (g : G w0 X M I) {f : Frag} (hf : f ∈ I) {a : Addr} {v : Value} (h : f.cell a = some v) : g.w.cell? a = some v := by
 unfold Frag.cell at h
 unfold World.cell?
 cases hk : f a.block with
 | none => rw [hk] at h; cases h
 | some o => rw [hk] at h; rw [g.sub f hf _ _ hk]; exact h
end
section
variable {w0 : World} {X : List Nat} {I : List Frag}
def G.st0 {b : Nat} {T : TypeId} {cs : List Value} {M : List Blk} (g : G w0 X ((b, T, cs) :: M) I) (i : Nat) (v : Value) : G w0 X ((b, T, cs.set i v) :: M) I := g.st 0 (cs := cs) rfl i v
@[go_sem] theorem G.cell0 {b : Nat} {T : TypeId} {cs : List Value} {M : List Blk} (g : G w0 X ((b, T, cs) :: M) I) (i : Nat) : g.w.cell? ⟨b, i, none⟩ = cs[i]? := g.cell_n (n := 0) rfl i
@[go_sem] theorem G.frozen0 {b : Nat} {T : TypeId} {cs : List Value} {M : List Blk} (g : G w0 X ((b, T, cs) :: M) I) (i : Nat) : g.w.frozen? ⟨b, i, none⟩ = false := g.frozen_n (n := 0) rfl i
@[go_sem] theorem G.set0 {b : Nat} {T : TypeId} {cs : List Value} {M : List Blk} (g : G w0 X ((b, T, cs) :: M) I) (i : Nat) (v : Value) : g.w.setCell ⟨b, i, none⟩ v = (g.st0 i v).mark.w := rfl
theorem G.blk0 {b : Nat} {T : TypeId} {cs : List Value} {M : List Blk} (g : G w0 X ((b, T, cs) :: M) I) : g.w.heap[b]? = some (.cells cs.toArray T (0, 0)) := g.own (b, T, cs) (List.mem_of_getElem? (i := 0) rfl)
theorem G.mut0 {b : Nat} {T : TypeId} {cs : List Value} {M : List Blk} (g : G w0 X ((b, T, cs) :: M) I) {cs' : List Value} {w1 : World} (h : Chg [b] g.w w1) (hh : w1.heap[b]? = some (.cells cs'.toArray T (0, 0))) : ∃ g' : G w0 X ((b, T, cs') :: M) I, w1 = g'.w := g.mut_ex 0 (cs := cs) rfl h hh
def G.st1 {x0 : Blk} {b : Nat} {T : TypeId} {cs : List Value} {M : List Blk} (g : G w0 X (x0 :: (b, T, cs) :: M) I) (i : Nat) (v : Value) : G w0 X (x0 :: (b, T, cs.set i v) :: M) I := g.st 1 (cs := cs) rfl i v
@[go_sem] theorem G.cell1 {x0 : Blk} {b : Nat} {T : TypeId} {cs : List Value} {M : List Blk} (g : G w0 X (x0 :: (b, T, cs) :: M) I) (i : Nat) : g.w.cell? ⟨b, i, none⟩ = cs[i]? := g.cell_n (n := 1) rfl i
@[go_sem] theorem G.frozen1 {x0 : Blk} {b : Nat} {T : TypeId} {cs : List Value} {M : List Blk} (g : G w0 X (x0 :: (b, T, cs) :: M) I) (i : Nat) : g.w.frozen? ⟨b, i, none⟩ = false := g.frozen_n (n := 1) rfl i
@[go_sem] theorem G.set1 {x0 : Blk} {b : Nat} {T : TypeId} {cs : List Value} {M : List Blk} (g : G w0 X (x0 :: (b, T, cs) :: M) I) (i : Nat) (v : Value) : g.w.setCell ⟨b, i, none⟩ v = (g.st1 i v).mark.w := rfl
theorem G.blk1 {x0 : Blk} {b : Nat} {T : TypeId} {cs : List Value} {M : List Blk} (g : G w0 X (x0 :: (b, T, cs) :: M) I) : g.w.heap[b]? = some (.cells cs.toArray T (0, 0)) := g.own (b, T, cs) (List.mem_of_getElem? (i := 1) rfl)
theorem G.mut1 {x0 : Blk} {b : Nat} {T : TypeId} {cs : List Value} {M : List Blk} (g : G w0 X (x0 :: (b, T, cs) :: M) I) {cs' : List Value} {w1 : World} (h : Chg [b] g.w w1) (hh : w1.heap[b]? = some (.cells cs'.toArray T (0, 0))) : ∃ g' : G w0 X (x0 :: (b, T, cs') :: M) I, w1 = g'.w := g.mut_ex 1 (cs := cs) rfl h hh
def G.st2 {x0 x1 : Blk} {b : Nat} {T : TypeId} {cs : List Value} {M : List Blk} (g : G w0 X (x0 :: x1 :: (b, T, cs) :: M) I) (i : Nat) (v : Value) : G w0 X (x0 :: x1 :: (b, T, cs.set i v) :: M) I := g.st 2 (cs := cs) rfl i v
@[go_sem] theorem G.cell2 {x0 x1 : Blk} {b : Nat} {T : TypeId} {cs : List Value} {M : List Blk} (g : G w0 X (x0 :: x1 :: (b, T, cs) :: M) I) (i : Nat) : g.w.cell? ⟨b, i, none⟩ = cs[i]? := g.cell_n (n := 2) rfl i
@[go_sem] theorem G.frozen2 {x0 x1 : Blk} {b : Nat} {T : TypeId} {cs : List Value} {M : List Blk} (g : G w0 X (x0 :: x1 :: (b, T, cs) :: M) I) (i : Nat) : g.w.frozen? ⟨b, i, none⟩ = false := g.frozen_n (n := 2) rfl i
@[go_sem] theorem G.set2 {x0 x1 : Blk} {b : Nat} {T : TypeId} {cs : List Value} {M : List Blk} (g : G w0 X (x0 :: x1 :: (b, T, cs) :: M) I) (i : Nat) (v : Value) : g.w.setCell ⟨b, i, none⟩ v = (g.st2 i v).mark.w := rfl
theorem G.blk2 {x0 x1 : Blk} {b : Nat} {T : TypeId} {cs : List Value} {M : List Blk} (g : G w0 X (x0 :: x1 :: (b, T, cs) :: M) I) : g.w.heap[b]? = some (.cells cs.toArray T (0, 0)) := g.own (b, T, cs) (List.mem_of_getElem? (i := 2) rfl)
theorem G.mut2 {x0 x1 : Blk} {b : Nat} {T : TypeId} {cs : List Value} {M : List Blk} (g : G w0 X (x0 :: x1 :: (b, T, cs) :: M) I) {cs' : List Value} {w1 : World} (h : Chg [b] g.w w1) (hh : w1.heap[b]? = some (.cells cs'.toArray T (0, 0))) : ∃ g' : G w0 X (x0 :: x1 :: (b, T, cs') :: M) I, w1 = g'.w := g.mut_ex 2 (cs := cs) rfl h hh
def G.st3 {x0 x1 x2 : Blk} {b : Nat} {T : TypeId} {cs : List Value} {M : List Blk} (g : G w0 X (x0 :: x1 :: x2 :: (b, T, cs) :: M) I) (i : Nat) (v : Value) : G w0 X (x0 :: x1 :: x2 :: (b, T, cs.set i v) :: M) I := g.st 3 (cs := cs) rfl i v
@[go_sem] theorem G.cell3 {x0 x1 x2 : Blk} {b : Nat} {T : TypeId} {cs : List Value} {M : List Blk} (g : G w0 X (x0 :: x1 :: x2 :: (b, T, cs) :: M) I) (i : Nat) : g.w.cell? ⟨b, i, none⟩ = cs[i]? := g.cell_n (n := 3) rfl i
@[go_sem] theorem G.frozen3 {x0 x1 x2 : Blk} {b : Nat} {T : TypeId} {cs : List Value} {M : List Blk} (g : G w0 X (x0 :: x1 :: x2 :: (b, T, cs) :: M) I) (i : Nat) : g.w.frozen? ⟨b, i, none⟩ = false := g.frozen_n (n := 3) rfl i
@[go_sem] theorem G.set3 {x0 x1 x2 : Blk} {b : Nat} {T : TypeId} {cs : List Value} {M : List Blk} (g : G w0 X (x0 :: x1 :: x2 :: (b, T, cs) :: M) I) (i : Nat) (v : Value) : g.w.setCell ⟨b, i, none⟩ v = (g.st3 i v).mark.w := rfl
theorem G.blk3 {x0 x1 x2 : Blk} {b : Nat} {T : TypeId} {cs : List Value} {M : List Blk} (g : G w0 X (x0 :: x1 :: x2 :: (b, T, cs) :: M) I) : g.w.heap[b]? = some (.cells cs.toArray T (0, 0)) := g.own (b, T, cs) (List.mem_of_getElem? (i := 3) rfl)
theorem G.mut3 {x0 x1 x2 : Blk} {b : Nat} {T : TypeId} {cs : List Value} {M : List Blk} (g : G w0 X (x0 :: x1 :: x2 :: (b, T, cs) :: M) I) {cs' : List Value} {w1 : World} (h : Chg [b] g.w w1) (hh : w1.heap[b]? = some (.cells cs'.toArray T (0, 0))) : ∃ g' : G w0 X (x0 :: x1 :: x2 :: (b, T, cs') :: M) I, w1 = g'.w := g.mut_ex 3 (cs := cs) rfl h hh
def G.st4 {x0 x1 x2 x3 : Blk} {b : Nat} {T : TypeId} {cs : List Value} {M : List Blk} (g : G w0 X (x0 :: x1 :: x2 :: x3 :: (b, T, cs) :: M) I) (i : Nat) (v : Value) : G w0 X (x0 :: x1 :: x2 :: x3 :: (b, T, cs.set i v) :: M) I := g.st 4 (cs := cs) rfl i v
@[go_sem] theorem G.cell4 {x0 x1 x2 x3 : Blk} {b : Nat} {T : TypeId} {cs : List Value} {M : List Blk} (g : G w0 X (x0 :: x1 :: x2 :: x3 :: (b, T, cs) :: M) I) (i : Nat) : g.w.cell? ⟨b, i, none⟩ = cs[i]? := g.cell_n (n := 4) rfl i
@[go_sem] theorem G.frozen4 {x0 x1 x2 x3 : Blk} {b : Nat} {T : TypeId} {cs : List Value} {M : List Blk} (g : G w0 X (x0 :: x1 :: x2 :: x3 :: (b, T, cs) :: M) I) (i : Nat) : g.w.frozen? ⟨b, i, none⟩ = false := g.frozen_n (n := 4) rfl i
@[go_sem] theorem G.set4 {x0 x1 x2 x3 : Blk} {b : Nat} {T : TypeId} {cs : List Value} {M : List Blk} (g : G w0 X (x0 :: x1 :: x2 :: x3 :: (b, T, cs) :: M) I) (i : Nat) (v : Value) : g.w.setCell ⟨b, i, none⟩ v = (g.st4 i v).mark.w := rfl
theorem G.blk4 {x0 x1 x2 x3 : Blk} {b : Nat} {T : TypeId} {cs : List Value} {M : List Blk} (g : G w0 X (x0 :: x1 :: x2 :: x3 :: (b, T, cs) :: M) I) : g.w.heap[b]? = some (.cells cs.toArray T (0, 0)) := g.own (b, T, cs) (List.mem_of_getElem? (i := 4) rfl)
theorem G.mut4 {x0 x1 x2 x3 : Blk} {b : Nat} {T : TypeId} {cs : List Value} {M : List Blk} (g : G w0 X (x0 :: x1 :: x2 :: x3 :: (b, T, cs) :: M) I) {cs' : List Value} {w1 : World} (h : Chg [b] g.w w1) (hh : w1.heap[b]? = some (.cells cs'.toArray T (0, 0))) : ∃ g' : G w0 X (x0 :: x1 :: x2 :: x3 :: (b, T, cs') :: M) I, w1 = g'.w := g.mut_ex 4 (cs := cs) rfl h hh
def G.st5 {x0 x1 x2 x3 x4 : Blk} {b : Nat} {T : TypeId} {cs : List Value} {M : List Blk} (g : G w0 X (x0 :: x1 :: x2 :: x3 :: x4 :: (b, T, cs) :: M) I) (i : Nat) (v : Value) : G w0 X (x0 :: x1 :: x2 :: x3 :: x4 :: (b, T, cs.set i v) :: M) I := g.st 5 (cs := cs) rfl i v
@[go_sem] theorem G.cell5 {x0 x1 x2 x3 x4 : Blk} {b : Nat} {T : TypeId} {cs : List Value} {M : List Blk} (g : G w0 X (x0 :: x1 :: x2 :: x3 :: x4 :: (b, T, cs) :: M) I) (i : Nat) : g.w.cell? ⟨b, i, none⟩ = cs[i]? := g.cell_n (n := 5) rfl i
@[go_sem] theorem G.frozen5 {x0 x1 x2 x3 x4 : Blk} {b : Nat} {T : TypeId} {cs : List Value} {M : List Blk} (g : G w0 X (x0 :: x1 :: x2 :: x3 :: x4 :: (b, T, cs) :: M) I) (i : Nat) : g.w.frozen? ⟨b, i, none⟩ = false := g.frozen_n (n := 5) rfl i
@[go_sem] theorem G.set5 {x0 x1 x2 x3 x4 : Blk} {b : Nat} {T : TypeId} {cs : List Value} {M : List Blk} (g : G w0 X (x0 :: x1 :: x2 :: x3 :: x4 :: (b, T, cs) :: M) I) (i : Nat) (v : Value) : g.w.setCell ⟨b, i, none⟩ v = (g.st5 i v).mark.w := rfl
theorem G.blk5 {x0 x1 x2 x3 x4 : Blk} {b : Nat} {T : TypeId} {cs : List Value} {M : List Blk} (g : G w0 X (x0 :: x1 :: x2 :: x3 :: x4 :: (b, T, cs) :: M) I) : g.w.heap[b]? = some (.cells cs.toArray T (0, 0)) := g.own (b, T, cs) (List.mem_of_getElem? (i := 5) rfl)
theorem G.mut5 {x0 x1 x2 x3 x4 : Blk} {b : Nat} {T : TypeId} {cs : List Value} {M : List Blk} (g : G w0 X (x0 :: x1 :: x2 :: x3 :: x4 :: (b, T, cs) :: M) I) {cs' : List Value} {w1 : World} (h : Chg [b] g.w w1) (hh : w1.heap[b]? = some (.cells cs'.toArray T (0, 0))) : ∃ g' : G w0 X (x0 :: x1 :: x2 :: x3 :: x4 :: (b, T, cs') :: M) I, w1 = g'.w := g.mut_ex 5 (cs := cs) rfl h hh
def G.st6 {x0 x1 x2 x3 x4 x5 : Blk} {b : Nat} {T : TypeId} {cs : List Value} {M : List Blk} (g : G w0 X (x0 :: x1 :: x2 :: x3 :: x4 :: x5 :: (b, T, cs) :: M) I) (i : Nat) (v : Value) : G w0 X (x0 :: x1 :: x2 :: x3 :: x4 :: x5 :: (b, T, cs.set i v) :: M) I := g.st 6 (cs := cs) rfl i v
@[go_sem] theorem G.cell6 {x0 x1 x2 x3 x4 x5 : Blk} {b : Nat} {T : TypeId} {cs : List Value} {M : List Blk} (g : G w0 X (x0 :: x1 :: x2 :: x3 :: x4 :: x5 :: (b, T, cs) :: M) I) (i : Nat) : g.w.cell? ⟨b, i, none⟩ = cs[i]? := g.cell_n (n := 6) rfl i
@[go_sem] theorem G.frozen6 {x0 x1 x2 x3 x4 x5 : Blk} {b : Nat} {T : TypeId} {cs : List Value} {M : List Blk} (g : G w0 X (x0 :: x1 :: x2 :: x3 :: x4 :: x5 :: (b, T, cs) :: M) I) (i : Nat) : g.w.frozen? ⟨b, i, none⟩ = false := g.frozen_n (n := 6) rfl i
@[go_sem] theorem G.set6 {x0 x1 x2 x3 x4 x5 : Blk} {b : Nat} {T : TypeId} {cs : List Value} {M : List Blk} (g : G w0 X (x0 :: x1 :: x2 :: x3 :: x4 :: x5 :: (b, T, cs) :: M) I) (i : Nat) (v : Value) : g.w.setCell ⟨b, i, none⟩ v = (g.st6 i v).mark.w := rfl
theorem G.blk6 {x0 x1 x2 x3 x4 x5 : Blk} {b : Nat} {T : TypeId} {cs : List Value} {M : List Blk} (g : G w0 X (x0 :: x1 :: x2 :: x3 :: x4 :: x5 :: (b, T, cs) :: M) I) : g.w.heap[b]? = some (.cells cs.toArray T (0, 0)) := g.own (b, T, cs) (List.mem_of_getElem? (i := 6) rfl)
theorem G.mut6 {x0 x1 x2 x3 x4 x5 : Blk} {b : Nat} {T : TypeId} {cs : List Value} {M : List Blk} (g : G w0 X (x0 :: x1 :: x2 :: x3 :: x4 :: x5 :: (b, T, cs) :: M) I) {cs' : List Value} {w1 : World} (h : Chg [b] g.w w1) (hh : w1.heap[b]? = some (.cells cs'.toArray T (0, 0))) : ∃ g' : G w0 X (x0 :: x1 :: x2 :: x3 :: x4 :: x5 :: (b, T, cs') :: M) I, w1 = g'.w := g.mut_ex 6 (cs := cs) rfl h hh
end
/-- Some of the blocks are forgotten. -/
theorem G.less {w0 : World} {X : List Nat} {M M' : List Blk} {I : List Frag} (g : G w0 X M I) (h : M'.Sublist M) : ∃ g' : G w0 X M' I, g.w = g'.w :=
 ⟨⟨g.w, g.chg, fun m hm => g.own m (h.subset hm), fun m hm => g.may m (h.subset hm), g.dist.sublist (h.map _), g.sub, fun f hf k o hk =>
  ⟨(g.keep f hf k o hk).1, fun hm => (g.keep f hf k o hk).2 ((h.map _).subset hm)⟩⟩, rfl⟩
@[reducible] def HeldN : List Bool → List Blk → World → Prop
 | true :: bs, (b, _, cs) :: M, w => (∀ i, w.cell? ⟨b, i, none⟩ = cs[i]?) ∧ HeldN bs M w
 | false :: bs, _ :: M, w => HeldN bs M w
 | _, _, _ => True
@[reducible] def G.heldN {w0 : World} {X : List Nat} {M : List Blk} {I : List Frag} (_g : G w0 X M I) (bs : List Bool) : World → Prop := fun w => HeldN bs M w
theorem calls_g {P : Program} {f : FuncId} {args : Array Value} {w : World} {R : Ending → World → Prop} (h : ∀ g : G w [] [] [], Calls P f args g.w R) : Calls P f args w R := h (G.start w)
end Go.Proofs.YthhbbnfnejjpiaaGreatDoor.GW
namespace Go.Proofs.YthhbbnfnejjpiaaGreatDoor.GW
open Go
open Go.RowKit
section
variable {w0 : World} {X : List Nat} {M : List Blk} {I : List Frag}
/-- a call that makes a block that its caller owns from then on -/
theorem G.own_ex (g : G w0 X M I) {w1 : World} {b : Nat} {T : TypeId} {cs : List Value} (h : Below g.w.heap.size g.w w1) (hb : g.w.heap.size ≤ b) (hh : w1.heap[b]? = some (.cells cs.toArray T (0, 0))) :
  ∃ g' : G w0 X ((b, T, cs) :: M) I, w1 = g'.w := by
 refine ⟨⟨w1, (g.call h).chg, ?_, ?_, ?_, (g.call h).sub, ?_⟩, rfl⟩
 ·intro m hm
  rcases List.mem_cons.1 hm with rfl | hm
  ·exact hh
  ·exact (g.call h).own m hm
 ·intro m hm
  rcases List.mem_cons.1 hm with rfl | hm
  ·exact .inl (Nat.le_trans g.chg.size hb)
  ·exact g.may m hm
 ·rw [List.map_cons, List.nodup_cons]
  refine ⟨?_, g.dist⟩
  intro hm
  obtain ⟨m, hm, e⟩ := List.mem_map.1 hm
  have := g.lt hm
  simp only at e
  omega
 ·intro f hf k o hk
  obtain ⟨h1, h2⟩ := g.keep f hf k o hk
  refine ⟨h1, ?_⟩
  rw [List.map_cons, List.mem_cons]
  rintro (e | e)
  ·have := Frag.lt (g.sub f hf) hk
   simp only at e
   omega
  ·exact h2 e
theorem G.as {M' : List Blk} (g : G w0 X M I) (h : M = M') : ∃ g' : G w0 X M' I, g.w = g'.w := by subst h; exact ⟨g, rfl⟩
/-- the blocks that the call owns were not there when it began -/
theorem G.fresh (g : G w0 [] M I) {m : Blk} (h : m ∈ M) : w0.heap.size ≤ m.1 := by
 rcases g.may m h with h | h
 ·exact h
 ·cases h
end
end Go.Proofs.YthhbbnfnejjpiaaGreatDoor.GW
namespace Go.Proofs.YthhbbnfnejjpiaaGreatDoor.NL
open Go
theorem set_zeros (pre : List Nat) (n : Nat) (x : Nat) : (pre ++ List.replicate (n + 1) 0).set pre.length x = (pre ++ [x]) ++ List.replicate n 0 := by
 rw [List.replicate_succ, List.set_append_right _ _ (Nat.le_refl _), Nat.sub_self, List.set_cons_zero, List.append_assoc]; rfl
theorem set_zeros' {pre : List Nat} {k n : Nat} (hk : pre.length = k) (hn : k < n) (x : Nat) : (pre ++ List.replicate (n - k) 0).set k x = (pre ++ [x]) ++ List.replicate (n - (k + 1)) 0 := by
 subst hk
 rw [show n - pre.length = (n - (pre.length + 1)) + 1 by omega, set_zeros]
theorem pow_split (k s : Nat) : 4294967296 ^ k * (s % 4294967296) + 4294967296 ^ (k + 1) * (s / 4294967296) = 4294967296 ^ k * s := by
 have h := Nat.mod_add_div s 4294967296
 rw [Nat.pow_succ, Nat.mul_assoc, ← Nat.mul_add, h]
theorem add_step {pre l1 l2 : List Nat} {k c : Nat} (hk : pre.length = k) (h : val pre + 4294967296 ^ k * c = val (l1.take k) + val (l2.take k)) :
  val (pre ++ [(l1.getD k 0 + l2.getD k 0 + c) % 4294967296]) + 4294967296 ^ (k + 1) * ((l1.getD k 0 + l2.getD k 0 + c) / 4294967296) = val (l1.take (k + 1)) + val (l2.take (k + 1)) := by
 rw [val_snoc, hk, val_take_getD, val_take_getD]
 have := pow_split k (l1.getD k 0 + l2.getD k 0 + c)
 rw [Nat.mul_add _ (l1.getD k 0 + l2.getD k 0), Nat.mul_add] at this
 generalize 4294967296 ^ (k + 1) * ((l1.getD k 0 + l2.getD k 0 + c) / 4294967296) = a at *
 generalize 4294967296 ^ k * ((l1.getD k 0 + l2.getD k 0 + c) % 4294967296) = b at *
 generalize 4294967296 ^ k * c = d at *
 generalize 4294967296 ^ k * l1.getD k 0 = e at *
 generalize 4294967296 ^ k * l2.getD k 0 = f at *
 omega
theorem add_end' {p a b P Q c q1 q2 : Nat} (h : p + Q * c = a + b) (b1 : a < q1) (b2 : b < q2) (p1 : q1 ≤ P) (p2 : q2 ≤ P) (hQ : P + P ≤ Q) : p = a + b ∧ c = 0 := by
 have hc : c = 0 := by
  rcases Nat.eq_zero_or_pos c with hc | hc
  ·exact hc
  ·have := Nat.le_mul_of_pos_right Q hc
   omega
 subst hc
 exact ⟨by omega, rfl⟩
/-- the sum is whole when all limbs are done -/
theorem add_end {pre l1 l2 : List Nat} {n c : Nat} (o1 : Ok l1) (o2 : Ok l2) (h1 : l1.length < n) (h2 : l2.length < n) (h : val pre + 4294967296 ^ n * c = val (l1.take n) + val (l2.take n)) : val pre = val l1 + val l2 ∧ c = 0 := by
 rw [val_take_all (Nat.le_of_lt h1), val_take_all (Nat.le_of_lt h2)] at h
 have b1 := val_lt o1
 have b2 := val_lt o2
 obtain ⟨m, rfl⟩ : ∃ m, n = m + 1 := ⟨n - 1, by omega⟩
 have p1 : 4294967296 ^ l1.length ≤ 4294967296 ^ m := Nat.pow_le_pow_right (by decide) (by omega)
 have p2 : 4294967296 ^ l2.length ≤ 4294967296 ^ m := Nat.pow_le_pow_right (by decide) (by omega)
 have hQ : 4294967296 ^ m + 4294967296 ^ m ≤ 4294967296 ^ (m + 1) := by
  rw [Nat.pow_succ]
  generalize 4294967296 ^ m = P
  omega
 exact add_end' h b1 b2 p1 p2 hQ
/-- what is borrowed -/
def brw (x y c : Nat) : Nat := if x < y + c then 1 else 0
theorem brw_le (x y c : Nat) : brw x y c ≤ 1 := by unfold brw; split <;> omega
theorem brw_eq (x y c : Nat) (hx : x < 4294967296) (hy : y < 4294967296) (hc : c ≤ 1) : (x + 4294967296 - y - c) % 4294967296 + y + c = x + 4294967296 * brw x y c := by unfold brw; split <;> omega
theorem sub_step {pre l1 l2 : List Nat} {k c : Nat} (o1 : Ok l1) (o2 : Ok l2) (hc : c ≤ 1) (hk : pre.length = k) (h : val pre + val (l2.take k) = val (l1.take k) + 4294967296 ^ k * c) :
  val (pre ++ [(l1.getD k 0 + 4294967296 - l2.getD k 0 - c) % 4294967296]) + val (l2.take (k + 1)) = val (l1.take (k + 1)) + 4294967296 ^ (k + 1) * brw (l1.getD k 0) (l2.getD k 0) c := by
 rw [val_snoc, hk, val_take_getD, val_take_getD]
 have e := brw_eq (l1.getD k 0) (l2.getD k 0) c (o1.getD k) (o2.getD k) hc
 have := congrArg (4294967296 ^ k * ·) e
 simp only [Nat.mul_add, ← Nat.mul_assoc] at this
 rw [Nat.pow_succ]
 omega
theorem sub_end {pre l1 l2 : List Nat} {n c : Nat} (ok : Ok pre) (hp : pre.length = n) (h1 : l1.length ≤ n) (h2 : l2.length ≤ n) (hle : val l2 ≤ val l1) (h : val pre + val (l2.take n) = val (l1.take n) + 4294967296 ^ n * c) : val pre = val l1 - val l2 ∧ c = 0 := by
 rw [val_take_all h1, val_take_all h2] at h
 have b := val_lt ok
 rw [hp] at b
 have hc : c = 0 := by
  rcases Nat.eq_zero_or_pos c with hc | hc
  ·exact hc
  ·have := Nat.mul_le_mul_left (4294967296 ^ n) hc
   omega
 subst hc
 exact ⟨by omega, rfl⟩
theorem val_set {l : List Nat} {k : Nat} (hk : k < l.length) (x : Nat) : val (l.set k x) + 4294967296 ^ k * l.getD k 0 = val l + 4294967296 ^ k * x := by
 induction l generalizing k with
 | nil => simp at hk
 | cons y l ih =>
  cases k with
  | zero => simp [val]; omega
  | succ k =>
   have := ih (k := k) (by simpa using hk)
   simp only [List.set_cons_succ, val, List.getD_cons_succ]
   have h2 := congrArg (4294967296 * ·) this
   simp only [Nat.mul_add, ← Nat.mul_assoc] at h2
   rw [Nat.pow_succ, Nat.mul_comm (4294967296 ^ k) 4294967296]
   omega
end Go.Proofs.YthhbbnfnejjpiaaGreatDoor.NL
namespace Go.Proofs.YthhbbnfnejjpiaaGreatDoor.NL
open Go
theorem limbs_prefix {l : List Nat} (h : Ok l) : l.take (limbs (val l)).length = limbs (val l) := by
 induction l with
 | nil => simp [val, limbs_zero]
 | cons x l ih =>
  by_cases h0 : val (x :: l) = 0
  ·rw [h0, limbs_zero]; rfl
  ·have hx := h.head
   rw [limbs_pos h0, val, show (x + 4294967296 * val l) % 4294967296 = x by omega, show (x + 4294967296 * val l) / 4294967296 = val l by omega, List.length_cons, List.take_succ_cons, ih h.tail]
end Go.Proofs.YthhbbnfnejjpiaaGreatDoor.NL
namespace Go.Proofs.YthhbbnfnejjpiaaGreatDoor.NL
open Go
theorem mul_carry {x y z c : Nat} (hx : x < 4294967296) (hy : y < 4294967296) (hz : z < 4294967296) (hc : c < 4294967296) : (x * y + z + c) / 4294967296 < 4294967296 := by
 have : x * y ≤ 4294967295 * 4294967295 := Nat.mul_le_mul (by omega) (by omega)
 omega
theorem mul_step {out l2 : List Nat} {k j c x V : Nat} (hj : k + j < out.length) (h : val out + 4294967296 ^ (k + j) * c = V + 4294967296 ^ k * (x * val (l2.take j))) :
  val (out.set (k + j) ((x * l2.getD j 0 + out.getD (k + j) 0 + c) % 4294967296)) + 4294967296 ^ (k + (j + 1)) * ((x * l2.getD j 0 + out.getD (k + j) 0 + c) / 4294967296) = V + 4294967296 ^ k * (x * val (l2.take (j + 1))) := by
 have s := val_set hj ((x * l2.getD j 0 + out.getD (k + j) 0 + c) % 4294967296)
 have p := pow_split (k + j) (x * l2.getD j 0 + out.getD (k + j) 0 + c)
 rw [Nat.mul_add _ (x * l2.getD j 0 + out.getD (k + j) 0), Nat.mul_add] at p
 rw [val_take_getD, Nat.mul_add x, Nat.mul_add (4294967296 ^ k), ← Nat.add_assoc k j 1]
 have e : 4294967296 ^ k * (x * (4294967296 ^ j * l2.getD j 0)) = 4294967296 ^ (k + j) * (x * l2.getD j 0) := by
  rw [Nat.pow_add]
  ac_rfl
 rw [e]
 generalize 4294967296 ^ (k + j + 1) * ((x * l2.getD j 0 + out.getD (k + j) 0 + c) / 4294967296) = a1 at *
 generalize val (out.set (k + j) ((x * l2.getD j 0 + out.getD (k + j) 0 + c) % 4294967296)) = a2 at *
 generalize 4294967296 ^ (k + j) * ((x * l2.getD j 0 + out.getD (k + j) 0 + c) % 4294967296) = a3 at *
 generalize 4294967296 ^ (k + j) * (x * l2.getD j 0) = a4 at *
 generalize 4294967296 ^ (k + j) * out.getD (k + j) 0 = a5 at *
 generalize 4294967296 ^ (k + j) * c = a6 at *
 generalize 4294967296 ^ k * (x * val (l2.take j)) = a7 at *
 omega
theorem mul_round {out l1 l2 : List Nat} {k c : Nat} (hk : k + l2.length < out.length) (hz : out.getD (k + l2.length) 0 = 0) (h : val out + 4294967296 ^ (k + l2.length) * c = val (l1.take k) * val l2 + 4294967296 ^ k * (l1.getD k 0 * val (l2.take l2.length))) :
  val (out.set (k + l2.length) c) = val (l1.take (k + 1)) * val l2 := by
 have s := val_set hk c
 rw [hz, Nat.mul_zero, Nat.add_zero] at s
 rw [s, h, val_take_getD, List.take_length, Nat.add_mul, Nat.mul_assoc]
theorem getD_set_ne {l : List Nat} {i j x : Nat} (h : i ≠ j) : (l.set i x).getD j 0 = l.getD j 0 := by
 rw [List.getD_eq_getElem?_getD, List.getD_eq_getElem?_getD, List.getElem?_set_ne h]
end Go.Proofs.YthhbbnfnejjpiaaGreatDoor.NL
namespace Go.Proofs.YthhbbnfnejjpiaaGreatDoor.GW
open Go
open Go.RowKit NL
/-- limbs as cells -/
def u32s (l : List Nat) : List Value := l.map fun x : Nat => .int .u32 (x : Int)
theorem u32s_len (l : List Nat) : (u32s l).length = l.length := by simp [u32s]
theorem u32s_get (l : List Nat) (j : Nat) : (u32s l)[j]? = (l[j]?).map fun x : Nat => Value.int .u32 (x : Int) := by simp [u32s]
theorem u32s_getD {l : List Nat} {j : Nat} (h : j < l.length) : (u32s l)[j]? = some (.int .u32 ((l.getD j 0 : Nat) : Int)) := by
 rw [u32s_get, List.getD_eq_getElem?_getD, List.getElem?_eq_getElem h]; rfl
theorem u32s_set (l : List Nat) (j : Nat) (x : Nat) : (u32s l).set j (.int .u32 (x : Int)) = u32s (l.set j x) := by
 unfold u32s; rw [List.map_set]
theorem u32s_zeros (n : Nat) : u32s (List.replicate n 0) = List.replicate n (.int .u32 0) := by simp [u32s]
theorem u32s_append (l m : List Nat) : u32s (l ++ m) = u32s l ++ u32s m := by simp [u32s]
theorem u32s_one (l : List Nat) : ∀ u ∈ u32s l, u.oneCell' = true := by
 intro u hu
 obtain ⟨x, _, rfl⟩ := List.mem_map.1 hu
 rfl
/-- the whole of a world's memory -/
@[reducible] def heapOf (w : World) : Frag := fun k => w.heap[k]?
theorem heapOf_sub (w : World) : (heapOf w).sub w := fun _ _ h => h
/-- a single block -/
def blkF (b : Nat) (o : Obj) : Frag := fun k => if k = b then some o else none
theorem blkF_sub {b : Nat} {o : Obj} {w : World} (h : w.heap[b]? = some o) : (blkF b o).sub w := by
 intro k o' hk
 unfold blkF at hk
 split at hk
 ·next e => subst e; rw [← hk]; exact h
 ·cases hk
theorem blkF_at {b k : Nat} {o o' : Obj} (h : blkF b o k = some o') : k = b := by
 unfold blkF at h; split at h
 ·assumption
 ·cases h
/-- In part f, the slice at A reads as the limbs l. -/
def Frag.Lim (f : Frag) (A : Option Addr) (l : List Nat) : Prop :=
 0 < l.length → ∃ b o, A = some ⟨b, o, none⟩ ∧ ∃ cs T fr, f b = some (.cells cs T fr) ∧ ∀ j, j < l.length → cs[o + j]? = some (.int .u32 ((l.getD j 0 : Nat) : Int))
/-- a slice value of limbs: the address A, the capacity c -/
structure Frag.Sl (f : Frag) (A : Option Addr) (c : Nat) (l : List Nat) : Prop where
 cap : l.length ≤ c
 max : c ≤ 9223372036854775807
 len : l.length ≤ 140737488355328
 lim : f.Lim A l
 ok : Ok l
@[reducible] def SlW (w : World) (A : Option Addr) (c : Nat) (l : List Nat) : Prop := (heapOf w).Sl A c l
theorem Frag.Lim.mono {f f' : Frag} {A : Option Addr} {l : List Nat} (h : f.Lim A l) (s : ∀ k o, f k = some o → f' k = some o) : f'.Lim A l := by
 intro hl
 obtain ⟨b, o, e, cs, T, fr, hb, hc⟩ := h hl
 exact ⟨b, o, e, cs, T, fr, s _ _ hb, hc⟩
theorem Frag.Sl.mono {f f' : Frag} {A : Option Addr} {c : Nat} {l : List Nat} (h : f.Sl A c l) (s : ∀ k o, f k = some o → f' k = some o) : f'.Sl A c l :=
 ⟨h.cap, h.max, h.len, h.lim.mono s, h.ok⟩
theorem Frag.Sl.at {f : Frag} {w : World} {A : Option Addr} {c : Nat} {l : List Nat} (h : f.Sl A c l) (s : f.sub w) : SlW w A c l := h.mono s
theorem Frag.Sl.nil (f : Frag) (A : Option Addr) : f.Sl A 0 [] := ⟨Nat.le_refl _, by decide, by simp, fun h => absurd h (by simp), Ok.nil⟩
theorem Frag.Sl.nilc (f : Frag) (A : Option Addr) {c : Nat} (h : c ≤ 140737488355328) : f.Sl A c [] := ⟨Nat.zero_le _, by omega, by simp, fun h => absurd h (by simp), Ok.nil⟩
theorem getD_take {l : List Nat} {j k : Nat} (h : j < k) : (l.take k).getD j 0 = l.getD j 0 := by
 rw [List.getD_eq_getElem?_getD, List.getD_eq_getElem?_getD, List.getElem?_take_of_lt h]
theorem Frag.Sl.take {f : Frag} {A : Option Addr} {c : Nat} {l : List Nat} (h : f.Sl A c l) (k : Nat) : f.Sl A c (l.take k) := by
 refine ⟨?_, h.max, by rw [List.length_take]; exact Nat.le_trans (Nat.min_le_right _ _) h.len, ?_, h.ok.take k⟩
 ·rw [List.length_take]; exact Nat.le_trans (Nat.min_le_right _ _) h.cap
 ·intro hl
  rw [List.length_take] at hl
  obtain ⟨b, o, e, cs, T, fr, hb, hc⟩ := h.lim (by omega)
  refine ⟨b, o, e, cs, T, fr, hb, fun j hj => ?_⟩
  rw [List.length_take] at hj
  rw [getD_take (by omega)]
  exact hc j (by omega)
theorem Frag.Lim.cell {f : Frag} {A : Option Addr} {l : List Nat} (h : f.Lim A l) (hl : 0 < l.length) : ∃ b o, A = some ⟨b, o, none⟩ ∧ ∀ j, j < l.length → f.cell ⟨b, o + j, none⟩ = some (.int .u32 ((l.getD j 0 : Nat) : Int)) := by
 obtain ⟨b, o, e, cs, T, fr, hb, hc⟩ := h hl
 refine ⟨b, o, e, fun j hj => ?_⟩
 unfold Frag.cell
 simp only [hb]
 exact hc j hj
theorem limW_cell {w : World} {A : Option Addr} {l : List Nat} (h : (heapOf w).Lim A l) (hl : 0 < l.length) : ∃ b o, A = some ⟨b, o, none⟩ ∧ ∀ j, j < l.length → w.cell? ⟨b, o + j, none⟩ = some (.int .u32 ((l.getD j 0 : Nat) : Int)) := by
 obtain ⟨b, o, e, cs, T, fr, hb, hc⟩ := h hl
 refine ⟨b, o, e, fun j hj => ?_⟩
 have : w.heap[b]? = some (.cells cs T fr) := hb
 simp only [World.cell?, this]
 exact hc j hj
section
variable {w0 : World} {X : List Nat} {M : List Blk} {I : List Frag}
theorem G.cell_of (g : G w0 X M I) {f : Frag} (hf : f ∈ I) {A : Option Addr} {l : List Nat} (h : f.Lim A l) (hl : 0 < l.length) : ∃ b o, A = some ⟨b, o, none⟩ ∧ ∀ j, j < l.length → g.w.cell? ⟨b, o + j, none⟩ = some (.int .u32 ((l.getD j 0 : Nat) : Int)) :=
 limW_cell (h.mono (g.sub f hf)) hl
theorem G.sl (g : G w0 X M I) {f : Frag} (hf : f ∈ I) {A : Option Addr} {c : Nat} {l : List Nat} (h : f.Sl A c l) : SlW g.w A c l := h.at (g.sub f hf)
/-- the beginning of a walk whose call writes nothing that was there -/
def G.begin (w : World) : G w [] [] [heapOf w] :=
 ⟨w, Chg.refl _ w, by simp, by simp, by simp, by intro f hf; rw [List.mem_singleton.1 hf]; exact heapOf_sub w, by intro f hf k o hk; exact ⟨.inr (by simp), by simp⟩⟩
end
theorem calls_b {P : Program} {f : FuncId} {args : Array Value} {w : World} {R : Ending → World → Prop} (h : ∀ g : G w [] [] [heapOf w], Calls P f args g.w R) : Calls P f args w R := h (G.begin w)
/-- new memory: F lies in w', and nothing of it lay in w -/
structure New (w w' : World) (F : Frag) : Prop where
 below : Below w.heap.size w w'
 sub : F.sub w'
 new : ∀ k o, F k = some o → w.heap.size ≤ k
section
variable {w0 : World} {X : List Nat} {M : List Blk} {I : List Frag}
theorem G.new_ex (g : G w0 X M I) {w1 : World} {F : Frag} (h : New g.w w1 F) : ∃ g' : G w0 X M (F :: I), w1 = g'.w := g.part_ex h.below h.sub h.new
/-- at the end: a block of the call's own is handed out -/
theorem G.give (g : G w0 [] M I) {b : Nat} {T : TypeId} {cs : List Value} (h : (b, T, cs) ∈ M) : New w0 g.w (blkF b (.cells cs.toArray T (0, 0))) :=
 ⟨g.below, blkF_sub (g.own _ h), by intro k o hk; rw [blkF_at hk]; exact g.fresh h⟩
/-- at the end: nothing is handed out -/
theorem G.none (g : G w0 [] M I) : New w0 g.w (fun _ => none) := ⟨g.below, (by intro k o h; cases h), (by intro k o h; cases h)⟩
/-- at the end: what a callee has made is handed out -/
theorem G.pass (g : G w0 [] M I) {F : Frag} (h : F ∈ I) (hn : ∀ k o, F k = some o → w0.heap.size ≤ k) : New w0 g.w F := ⟨g.below, g.sub F h, hn⟩
end
theorem lim_blk {b : Nat} {T : TypeId} (l : List Nat) {fr : Nat × Nat} : (blkF b (.cells (u32s l).toArray T fr)).Lim (some ⟨b, 0, none⟩) l := by
 intro hl
 refine ⟨b, 0, rfl, (u32s l).toArray, T, fr, by simp [blkF], fun j hj => ?_⟩
 rw [Nat.zero_add, List.getElem?_toArray]
 exact u32s_getD hj
theorem sl_blk {b : Nat} {T : TypeId} {l : List Nat} {fr : Nat × Nat} {c : Nat} (h : l.length ≤ c) (hc : c ≤ 140737488355328) (hk : Ok l) : (blkF b (.cells (u32s l).toArray T fr)).Sl (some ⟨b, 0, none⟩) c l := ⟨h, by omega, by omega, lim_blk l, hk⟩
/-- What is returned is the number n, in new memory. -/
def RNat (n : Nat) (w : World) (e : Ending) (w' : World) : Prop := ∃ A c F, e = .returned (.slice A (limbs n).length c) ∧ F.Sl A c (limbs n) ∧ New w w' F
end Go.Proofs.YthhbbnfnejjpiaaGreatDoor.GW
namespace Go.Proofs.YthhbbnfnejjpiaaGreatDoor.GW
open Go
open Go.RowKit NL
/-- memory without one block -/
def heapBut (w : World) (b : Nat) : Frag := fun k => if k = b then none else w.heap[k]?
theorem heapBut_sub (w : World) (b : Nat) : (heapBut w b).sub w := by
 intro k o h; unfold heapBut at h; split at h
 ·cases h
 ·exact h
/-- the beginning of a walk whose call may write block b -/
def G.beginM (w : World) (b : Nat) (T : TypeId) (cs : List Value) (h : w.heap[b]? = some (.cells cs.toArray T (0, 0))) : G w [b] [(b, T, cs)] [heapBut w b] :=
 ⟨w, Chg.refl _ w, by intro m hm; rw [List.mem_singleton.1 hm]; exact h, by intro m hm; rw [List.mem_singleton.1 hm]; exact .inr (List.mem_singleton.2 rfl), by simp,
  by intro f hf; rw [List.mem_singleton.1 hf]; exact heapBut_sub w b,
  by
   intro f hf k o hk
   rw [List.mem_singleton.1 hf] at hk
   have hne : k ≠ b := by rintro rfl; unfold heapBut at hk; rw [if_pos rfl] at hk; cases hk
   exact ⟨.inr (by simpa using hne), by simpa using hne⟩⟩
theorem calls_m {P : Program} {f : FuncId} {args : Array Value} {w : World} {R : Ending → World → Prop} {b : Nat} {T : TypeId} {cs : List Value} (hb : w.heap[b]? = some (.cells cs.toArray T (0, 0)))
  (h : ∀ g : G w [b] [(b, T, cs)] [heapBut w b], Calls P f args g.w R) : Calls P f args w R := h (G.beginM w b T cs hb)
/-- the slice does not lie in block b -/
def Apart (A : Option Addr) (b : Nat) : Prop := ∀ a, A = some a → a.block ≠ b
theorem Frag.Sl.but {w : World} {b : Nat} {A : Option Addr} {c : Nat} {l : List Nat} (h : SlW w A c l) (hne : Apart A b) : (heapBut w b).Sl A c l := by
 refine ⟨h.cap, h.max, h.len, ?_, h.ok⟩
 intro hl
 obtain ⟨b', o, e, cs, T, fr, hb, hc⟩ := h.lim hl
 refine ⟨b', o, e, cs, T, fr, ?_, hc⟩
 unfold heapBut
 rw [if_neg (hne _ e)]; exact hb
end Go.Proofs.YthhbbnfnejjpiaaGreatDoor.GW
namespace Go.Proofs.YthhbbnfnejjpiaaGreatDoor.GW
open Go
open Go.RowKit NL
theorem sl_trim {f : Frag} {A : Option Addr} {c : Nat} {l : List Nat} (h : f.Sl A c l) : f.Sl A c (limbs (val l)) := by
 rw [← limbs_prefix h.ok]; exact h.take _
theorem rnat_end {w0 : World} {M : List Blk} {I : List Frag} (g : G w0 [] M I) {b : Nat} {T : TypeId} {pre : List Nat} {c v : Nat} (hm : (b, T, u32s pre) ∈ M) (hok : Ok pre) (hc : pre.length ≤ c) (hc2 : c ≤ 140737488355328) (hv : val pre = v) :
  RNat v w0 (.returned (.slice (some ⟨b, 0, none⟩) (limbs (val pre)).length c)) g.w := by
 subst hv
 exact ⟨_, c, _, rfl, sl_trim (sl_blk hc hc2 hok), g.give hm⟩
end Go.Proofs.YthhbbnfnejjpiaaGreatDoor.GW
namespace Go.Proofs.YthhbbnfnejjpiaaGreatDoor.GW
open Go
open Go.RowKit NL
theorem lim_cells {F : Frag} {A : Option Addr} {l : List Nat} (h : F.Lim A l) (hl : 0 < l.length) : ∃ b o, A = some ⟨b, o, none⟩ ∧ ∀ j, j < l.length → ∀ (w0 : World) (X : List Nat) (M : List Blk) (I : List Frag) (g : G w0 X M I), F ∈ I → g.w.cell? ⟨b, o + j, none⟩ = some (.int .u32 ((l.getD j 0 : Nat) : Int)) := by
 obtain ⟨b, o, e, hc⟩ := h.cell hl
 exact ⟨b, o, e, fun j hj w0 X M I g hf => g.frag_cell hf (hc j hj)⟩
end Go.Proofs.YthhbbnfnejjpiaaGreatDoor.GW
namespace Go.Proofs.YthhbbnfnejjpiaaGreatDoor.K3
open Go
open Go Go.RowKit
theorem wrap_bv32 (x : BitVec 32) : IntKind.u32.wrap (x.toNat : Int) = (x.toNat : Int) := by
 rw [IntKind.wrap_u32]; have := x.isLt; omega
theorem or32 (x y : Int) : bits .or .u32 x y = ((BitVec.ofInt 32 x ||| BitVec.ofInt 32 y).toNat : Int) := wrap_bv32 _
theorem and32 (x y : Int) : bits .and .u32 x y = ((BitVec.ofInt 32 x &&& BitVec.ofInt 32 y).toNat : Int) := wrap_bv32 _
theorem xor32 (x y : Int) : bits .xor .u32 x y = ((BitVec.ofInt 32 x ^^^ BitVec.ofInt 32 y).toNat : Int) := wrap_bv32 _
theorem back32 (b : BitVec 32) : BitVec.ofInt 32 (b.toNat : Int) = b := by
 apply BitVec.eq_of_toNat_eq
 rw [BitVec.ofInt_natCast, BitVec.toNat_ofNat]
 exact Nat.mod_eq_of_lt b.isLt
theorem top32 (b : BitVec 32) : (b.toNat : Int) / 2147483648 = if b.msb then 1 else 0 := by
 rw [BitVec.msb_eq_decide]
 have := b.isLt
 by_cases h : 2 ^ (32 - 1) ≤ b.toNat
 ·rw [decide_eq_true h]; simp; omega
 ·rw [decide_eq_false h]; simp; omega
theorem msbN (x : Nat) (h : x < 4294967296) : (BitVec.ofInt 32 (x : Int)).msb = decide (2147483648 ≤ x) := by
 rw [BitVec.msb_eq_decide, BitVec.ofInt_natCast, BitVec.toNat_ofNat, Nat.mod_eq_of_lt (by omega)]
theorem borrow32 (x y c : Nat) (hx : x < 4294967296) (hy : y < 4294967296) (hc : c ≤ 1) :
  bits .or .u32 (bits .and .u32 (bits .xor .u32 IntKind.u32.max (x : Int)) (y : Int)) (bits .and .u32 (bits .xor .u32 IntKind.u32.max (bits .xor .u32 (x : Int) (y : Int))) (((x : Int) - (y : Int) - (c : Int)) % 4294967296)) / 2147483648 = ((if x < y + c then 1 else 0 : Nat) : Int) := by
 obtain ⟨d, hd, hd1⟩ : ∃ d : Nat, ((x : Int) - y - c) % 4294967296 = (d : Int) ∧ d < 4294967296 := ⟨(((x : Int) - y - c) % 4294967296).toNat, by omega, by omega⟩
 rw [hd]
 have hm : (BitVec.ofInt 32 IntKind.u32.max).msb = true := by decide
 simp only [or32, and32, xor32, back32, top32, BitVec.msb_or, BitVec.msb_and, BitVec.msb_xor, msbN x hx, msbN y hy, msbN d hd1, hm]
 by_cases a : 2147483648 ≤ x <;> by_cases b : 2147483648 ≤ y <;> by_cases e : 2147483648 ≤ d <;> simp [a, b, e] <;> (split <;> omega)
/-- numbers that share no bit: or is the sum -/
theorem or32_add (x y k : Nat) (hk : k ≤ 32) (hx : x < 2 ^ k) (hy : y < 4294967296) (hd : y % 2 ^ k = 0) : bits .or .u32 (x : Int) (y : Int) = ((y + x : Nat) : Int) := by
 have lt : 2 ^ k ≤ 2 ^ 32 := Nat.pow_le_pow_right (by omega) hk
 rw [or32]
 congr 1
 rw [BitVec.toNat_or, BitVec.ofInt_natCast, BitVec.ofInt_natCast, BitVec.toNat_ofNat, BitVec.toNat_ofNat, Nat.mod_eq_of_lt (by omega), Nat.mod_eq_of_lt (by omega)]
 have hm : y = 2 ^ k * (y / 2 ^ k) := by have := Nat.div_add_mod y (2 ^ k); omega
 rw [Nat.or_comm]
 conv => lhs; rw [hm]
 rw [← Nat.two_pow_add_eq_or_of_lt hx]
 omega
theorem wrap_bv64 (x : BitVec 64) : IntKind.u64.wrap (x.toNat : Int) = (x.toNat : Int) := by
 rw [IntKind.wrap_u64]; have := x.isLt; omega
theorem or64 (x y : Int) : bits .or .u64 x y = ((BitVec.ofInt 64 x ||| BitVec.ofInt 64 y).toNat : Int) := wrap_bv64 _
theorem or64_add (x y k : Nat) (hk : k ≤ 64) (hx : x < 2 ^ k) (hy : y < 18446744073709551616) (hd : y % 2 ^ k = 0) : bits .or .u64 (x : Int) (y : Int) = ((y + x : Nat) : Int) := by
 have lt : 2 ^ k ≤ 2 ^ 64 := Nat.pow_le_pow_right (by omega) hk
 rw [or64]
 congr 1
 rw [BitVec.toNat_or, BitVec.ofInt_natCast, BitVec.ofInt_natCast, BitVec.toNat_ofNat, BitVec.toNat_ofNat, Nat.mod_eq_of_lt (by omega), Nat.mod_eq_of_lt (by omega)]
 have hm : y = 2 ^ k * (y / 2 ^ k) := by have := Nat.div_add_mod y (2 ^ k); omega
 rw [Nat.or_comm]
 conv => lhs; rw [hm]
 rw [← Nat.two_pow_add_eq_or_of_lt hx]
 omega
theorem or64_comm (x y : Int) : bits .or .u64 x y = bits .or .u64 y x := by rw [or64, or64, BitVec.or_comm]
theorem or32_comm (x y : Int) : bits .or .u32 x y = bits .or .u32 y x := by rw [or32, or32, BitVec.or_comm]
end Go.Proofs.YthhbbnfnejjpiaaGreatDoor.K3
namespace Go.Proofs.YthhbbnfnejjpiaaGreatDoor.K3
open Go
open Go Go.RowKit
end Go.Proofs.YthhbbnfnejjpiaaGreatDoor.K3
namespace Go.Proofs.YthhbbnfnejjpiaaGreatDoor.GW
open Go
open Go.RowKit
section
variable {w0 : World} {M M' : List Blk} {I : List Frag}
/-- a block that holds no cells turns, or there are new blocks -/
theorem G.grown_ex (g : G w0 [] M I) {W' : World} {row : Option Nat} {B : Nat} (hB : w0.heap.size ≤ B) (hI : ∀ f ∈ I, ∀ k o, f k = some o → k < B ∨ o.isCells = true) (hg : g.w.grownBy W' row)
  (hr : ∀ r, row = some r → B ≤ r ∧ ∃ o : Obj, g.w.heap[r]? = some o ∧ o.isCells = false) : ∃ g' : G w0 [] M I, W' = g'.w := by
 refine ⟨⟨W', Chg.of_below (g.below.grown hg g.chg.size (fun k e => Nat.le_trans hB (hr k e).1)), ?_, g.may, g.dist, ?_, g.keep⟩, rfl⟩
 ·intro m hm
  refine (hg.block m.1 (g.lt hm) ?_).trans (g.own m hm)
  intro e
  obtain ⟨_, o, ho, hc⟩ := hr m.1 e.symm
  rw [g.own m hm] at ho
  cases ho
  cases hc
 ·intro f hf k o hk
  refine (hg.block k (Frag.lt (g.sub f hf) hk) ?_).trans (g.sub f hf k o hk)
  intro e
  obtain ⟨h1, o', ho, hc⟩ := hr k e.symm
  rw [g.sub f hf k o hk] at ho
  cases ho
  rcases hI f hf k o hk with h | h
  ·omega
  ·rw [hc] at h; cases h
end
end Go.Proofs.YthhbbnfnejjpiaaGreatDoor.GW
namespace Go.Proofs.YthhbbnfnejjpiaaGreatDoor.GW
open Go
open Go.RowKit
/-- a block that nobody writes any more -/
theorem G.fix {w0 : World} {M : List Blk} {I : List Frag} {b : Nat} {T : TypeId} {cs : List Value} (g : G w0 [] ((b, T, cs) :: M) I) : ∃ g' : G w0 [] M (blkF b (.cells cs.toArray T (0, 0)) :: I), g.w = g'.w := by
 have hd := g.dist
 rw [List.map_cons, List.nodup_cons] at hd
 refine ⟨⟨g.w, g.chg, fun m hm => g.own m (List.mem_cons_of_mem _ hm), fun m hm => g.may m (List.mem_cons_of_mem _ hm), hd.2, ?_, ?_⟩, rfl⟩
 ·intro f hf
  rcases List.mem_cons.1 hf with rfl | hf
  ·exact blkF_sub g.blk0
  ·exact g.sub f hf
 ·intro f hf k o hk
  refine ⟨.inr (by simp), ?_⟩
  rcases List.mem_cons.1 hf with rfl | hf
  ·rw [blkF_at hk]; exact hd.1
  ·exact fun hm => (g.keep f hf k o hk).2 (by rw [List.map_cons]; exact List.mem_cons_of_mem _ hm)
/-- a block that holds no cells -/
theorem G.seeD {w0 : World} {M : List Blk} {I : List Frag} (g : G w0 [] M I) {D : Nat} {o : Obj} (h : g.w.heap[D]? = some o) (ho : o.isCells = false) : ∃ g' : G w0 [] M (blkF D o :: I), g.w = g'.w :=
 ⟨g.see (blkF D o) (blkF_sub h) fun k o' hk => ⟨.inr (by simp), fun hm => by
  obtain ⟨m, hm2, e⟩ := List.mem_map.1 hm
  have := g.own m hm2
  rw [e, blkF_at hk, h] at this
  cases this
  cases ho⟩, rfl⟩
end Go.Proofs.YthhbbnfnejjpiaaGreatDoor.GW
namespace Go.Proofs.YthhbbnfnejjpiaaGreatDoor.GW
open Go
end Go.Proofs.YthhbbnfnejjpiaaGreatDoor.GW
namespace Go.Proofs.YthhbbnfnejjpiaaGreatDoor.GW
open Go
open Go.RowKit NL
/-- F lies in w', and what of it is not new was in F0 -/
structure NewOr (F0 : Frag) (w w' : World) (F : Frag) : Prop where
 below : Below w.heap.size w w'
 sub : F.sub w'
 new : ∀ k o, F k = some o → F0 k = some o ∨ w.heap.size ≤ k
theorem New.or {w w' : World} {F : Frag} (h : New w w' F) (F0 : Frag) : NewOr F0 w w' F := ⟨h.below, h.sub, fun k o hk => .inr (h.new k o hk)⟩
/-- F is made of F0 and of what is new since w0 -/
def Frag.over (F F0 : Frag) (w0 : World) : Prop := ∀ k o, F k = some o → F0 k = some o ∨ w0.heap.size ≤ k
theorem Frag.over_self (F : Frag) (w0 : World) : F.over F w0 := fun _ _ h => .inl h
theorem New.over {w0 w w' : World} {F : Frag} (h : New w w' F) (F0 : Frag) (hs : w0.heap.size ≤ w.heap.size) : F.over F0 w0 := fun k o hk => .inr (Nat.le_trans hs (h.new k o hk))
section
variable {w0 : World} {M : List Blk} {I : List Frag} {F0 : Frag}
/-- all that stays, of F0 and of what is new -/
def G.fr (g : G w0 [] M I) (F0 : Frag) : Frag := fun k => if k ∈ M.map (·.1) then Option.none else if k < w0.heap.size then F0 k else g.w.heap[k]?
theorem G.fr_sub (g : G w0 [] M I) (h : F0 ∈ I) : (g.fr F0).sub g.w := by
 intro k o hk
 unfold G.fr at hk
 split at hk
 ·cases hk
 ·split at hk
  ·exact g.sub _ h _ _ hk
  ·exact hk
theorem G.fr_of (g : G w0 [] M I) {F : Frag} (hF : F ∈ I) (hn : F.over F0 w0) : ∀ k o, F k = some o → g.fr F0 k = some o := by
 intro k o hk
 unfold G.fr
 rw [if_neg (g.keep F hF k o hk).2]
 split
 ·next hlt =>
  rcases hn k o hk with h | h
  ·exact h
  ·omega
 ·exact g.sub F hF k o hk
theorem G.fr_sl (g : G w0 [] M I) {F : Frag} (hF : F ∈ I) (hn : F.over F0 w0) {A : Option Addr} {c : Nat} {l : List Nat} (h : F.Sl A c l) : (g.fr F0).Sl A c l := h.mono (g.fr_of hF hn)
theorem G.newor_ex (g : G w0 [] M I) {w1 : World} {F : Frag} (h : NewOr (g.fr F0) g.w w1 F) : ∃ g' : G w0 [] M (F :: I), w1 = g'.w ∧ F.over F0 w0 := by
 refine ⟨(g.call h.below).see F h.sub fun k o hk => ⟨.inr (by simp), fun hm => ?_⟩, rfl, ?_⟩
 ·rcases h.new k o hk with h1 | h1
  ·unfold G.fr at h1
   rw [if_pos hm] at h1; cases h1
  ·obtain ⟨m, hm2, e⟩ := List.mem_map.1 hm
   have := g.lt hm2
   omega
 ·intro k o hk
  rcases h.new k o hk with h1 | h1
  ·unfold G.fr at h1
   split at h1
   ·cases h1
   ·split at h1
    ·exact .inl h1
    ·next hge => exact .inr (by omega)
  ·exact .inr (Nat.le_trans g.chg.size h1)
theorem G.passOr (g : G w0 [] M I) {F : Frag} (hF : F ∈ I) (hn : F.over F0 w0) : NewOr F0 w0 g.w F := ⟨g.below, g.sub F hF, hn⟩
theorem G.giveOr (g : G w0 [] M I) {b : Nat} {T : TypeId} {cs : List Value} (h : (b, T, cs) ∈ M) : NewOr F0 w0 g.w (blkF b (.cells cs.toArray T (0, 0))) := (g.give h).or F0
end
/-- the beginning of a walk: a part of memory -/
def G.beginF (w : World) (F0 : Frag) (h : F0.sub w) : G w [] [] [F0] :=
 ⟨w, Chg.refl _ w, by simp, by simp, by simp, by intro f hf; rw [List.mem_singleton.1 hf]; exact h, by intro f hf k o hk; exact ⟨.inr (by simp), by simp⟩⟩
theorem calls_f {P : Program} {f : FuncId} {args : Array Value} {w : World} {R : Ending → World → Prop} {F0 : Frag} (hF : F0.sub w) (h : ∀ g : G w [] [] [F0], Calls P f args g.w R) : Calls P f args w R := h (G.beginF w F0 hF)
/-- What is returned is the number n, in new memory or in F0. -/
def RAli (F0 : Frag) (n : Nat) (w : World) (e : Ending) (w' : World) : Prop := ∃ A c F, e = .returned (.slice A (limbs n).length c) ∧ F.Sl A c (limbs n) ∧ NewOr F0 w w' F
end Go.Proofs.YthhbbnfnejjpiaaGreatDoor.GW
namespace Go.Proofs.YthhbbnfnejjpiaaGreatDoor.GW
open Go
open Go.RowKit
section
variable {w0 : World} {X : List Nat} {R : List Blk} {I : List Frag}
theorem G.grow (g : G w0 X R I) {w' : World} {row : Option Nat} {b : Nat} {T : TypeId} {cs : List Value} (h : g.w.grownBy w' row) (hrow : ∀ k, row = some k → w0.heap.size ≤ k)
  (hne : ∀ m ∈ R, some m.1 ≠ row) (hfr : ∀ f ∈ I, ∀ k o, f k = some o → some k ≠ row) (hb : row = some b ∨ b = g.w.heap.size) (hh : w'.heap[b]? = some (.cells cs.toArray T (0, 0))) :
  ∃ g' : G w0 X ((b, T, cs) :: R) I, w' = g'.w := by
 have hw : w0.heap.size ≤ b := by
  rcases hb with hb | hb
  ·exact hrow b hb
  ·rw [hb]; exact g.chg.size
 have hR : ∀ m ∈ R, m.1 ≠ b := by
  intro m hm e
  rcases hb with hb | hb
  ·exact hne m hm (by rw [hb, e])
  ·have := g.lt hm; omega
 have hF : ∀ f ∈ I, ∀ k o, f k = some o → k ≠ b := by
  intro f hf k o hk e
  rcases hb with hb | hb
  ·exact hfr f hf k o hk (by rw [hb, e])
  ·have := Frag.lt (g.sub f hf) hk; omega
 refine ⟨⟨w', ⟨h.os.trans g.chg.os, h.tape.trans g.chg.tape, h.output.trans g.chg.output, Nat.le_trans g.chg.size h.size, ?_⟩, ?_, ?_, ?_, ?_, ?_⟩, rfl⟩
 ·intro k hk hx
  rw [h.block k (Nat.lt_of_lt_of_le hk g.chg.size) (fun e => by have := hrow k e.symm; omega)]
  exact g.chg.block k hk hx
 ·intro m hm
  rcases List.mem_cons.1 hm with rfl | hm
  ·exact hh
  ·rw [h.block _ (g.lt hm) (hne m hm)]; exact g.own m hm
 ·intro m hm
  rcases List.mem_cons.1 hm with rfl | hm
  ·exact .inl hw
  ·exact g.may m hm
 ·rw [List.map_cons, List.nodup_cons]
  refine ⟨?_, g.dist⟩
  intro hm
  obtain ⟨m, hm, e⟩ := List.mem_map.1 hm
  exact hR m hm e
 ·intro f hf k o hk
  rw [h.block k (Frag.lt (g.sub f hf) hk) (hfr f hf k o hk)]
  exact g.sub f hf k o hk
 ·intro f hf k o hk
  refine ⟨(g.keep f hf k o hk).1, ?_⟩
  rw [List.map_cons, List.mem_cons]
  rintro (e | e)
  ·exact hF f hf k o hk e
  ·exact (g.keep f hf k o hk).2 e
/-- a slice that the walk owns and that reads as xs -/
structure Row (e : TypeId) (size n : Nat) (xs : List Value) (cap : Nat) (cs : List Value) : Prop where
 le : n ≤ cap
 max : cap ≤ maxLen
 len : cs.length = cap * size
 take : cs.take (n * size) = xs
 xl : xs.length = n * size
theorem wpList_append_g {P : Program} {ops : Array Oper} {rest : List Oper} {o : Oper} {a : Act} {Q : Exit → Act → World → Prop} (hgd : o.guard = none) (s x : Operand) (t : TypeId)
  (ho : o.op = .call { callee := .builtin .append, args := #[s, x], argTypes := #[t, t] })
  (e : TypeId) (i : TypeInfo) (z : Value) (size bytes : Nat) (ht : P.underlying t = some (.slice e)) (hi : P.info? e = some i) (hz : i.zero = some z)
  (hsize : i.size = size) (hby : i.bytes = bytes) (hzs : z.cells.size = size) (hsz : 0 < size)
  (g : G w0 X R I) (v : Value) (n : Nat) (xs : List Value) (hs : a.eval s = v) (hown : g.w.ownsRow w0.heap.size e size v n xs)
  (hne : ∀ m ∈ R, some m.1 ≠ v.ownBlock) (hfr : ∀ f ∈ I, ∀ k o, f k = some o → some k ≠ v.ownBlock)
  (ad : Addr) (m c : Nat) (news : List Value) (hx : a.eval x = .slice (some ad) m c) (hl : news.length = m * size) (hnews : ∀ j u, news[j]? = some u → g.w.cell? (ad.add j) = some u) (h1 : ∀ u ∈ news, u.oneCell' = true)
  (hm : 0 < m) (h63 : n + m ≤ maxLen) (hbytes : (n + m) * bytes ≤ 140737488355328)
  (h : ∀ b cap cs, ∀ g' : G w0 X ((b, e, cs) :: R) I, w0.heap.size ≤ b → Row e size (n + m) (xs ++ news) cap cs → wpList P ops Q rest (a.put o.dst (.slice (some ⟨b, 0, none⟩) (n + m) cap)) g'.w) :
  wpList P ops Q (o :: rest) a g.w := by
 refine wpList_append_own_at _ hgd s x t ho w0.heap.size e i z size bytes ht hi hz hsize hby hzs hsz v n xs hs hown ad m c news hx hl hnews h1 h63 hbytes g.chg.size ?_
 intro v' w' ho' hg hv hb
 rcases ho'.2 with ⟨e1, e2⟩ | ⟨b, cap, cur, rfl, hb0, hh, hle, hmx, hcl, hct⟩
 ·exfalso; omega
 ·have hrow : ∀ k, v.ownBlock = some k → w0.heap.size ≤ k := fun k hk => (hown.lt k hk).1
  have hb' : v.ownBlock = some b ∨ b = g.w.heap.size := by
   rcases hb with hb | hb
   ·exact .inl hb.symm
   ·right; exact Option.some.inj hb
  obtain ⟨g', rfl⟩ := g.grow (cs := cur.toList) hg hrow hne hfr hb' (by rw [Array.toArray_toList]; exact hh)
  exact h b cap cur.toList g' hb0 ⟨hle, hmx, by rw [Array.length_toList]; exact hcl, hct, ho'.1⟩
theorem G.rowNil (g : G w0 X R I) (e : TypeId) (size : Nat) : g.w.ownsRow w0.heap.size e size (.slice Option.none 0 0) 0 [] := World.ownsRow_nil _ _ _ _
theorem G.rowAt (g : G w0 X R I) {e : TypeId} {size n cap b : Nat} {xs cs : List Value} (h : Row e size n xs cap cs) (hm : (b, e, cs) ∈ R) (hb : w0.heap.size ≤ b) : g.w.ownsRow w0.heap.size e size (.slice (some ⟨b, 0, Option.none⟩) n cap) n xs :=
 ⟨h.xl, .inr ⟨b, cap, cs.toArray, rfl, hb, g.own _ hm, h.le, h.max, by rw [List.size_toArray]; exact h.len, h.take⟩⟩
/-- the row at the head of the blocks is forgotten, its world stays -/
theorem G.apart {b : Nat} {T : TypeId} {cs : List Value} (g : G w0 X ((b, T, cs) :: R) I) : (∀ m ∈ R, some m.1 ≠ some b) ∧ (∀ f ∈ I, ∀ k o, f k = some o → some k ≠ some b) := by
 constructor
 ·intro m hm e
  have := g.dist
  rw [List.map_cons, List.nodup_cons] at this
  exact this.1 (List.mem_map.2 ⟨m, hm, Option.some.inj e⟩)
 ·intro f hf k o hk e
  exact (g.keep f hf k o hk).2 (by rw [List.map_cons, List.mem_cons]; exact .inl (Option.some.inj e))
theorem add_off (b j : Nat) : (⟨b, 0, none⟩ : Addr).add j = ⟨b, j, none⟩ := by
 unfold Addr.add; split
 ·next h => subst h; rfl
 ·simp
/-- 'append' of what was written out, to a slice that is nil -/
theorem wpList_append_lit0 {P : Program} {ops : Array Oper} {rest : List Oper} {o : Oper} {a : Act} {Q : Exit → Act → World → Prop} (hgd : o.guard = none) (s x : Operand) (t : TypeId)
  (ho : o.op = .call { callee := .builtin .append, args := #[s, x], argTypes := #[t, t] })
  (e : TypeId) (i : TypeInfo) (z : Value) (size bytes : Nat) (ht : P.underlying t = some (.slice e)) (hi : P.info? e = some i) (hz : i.zero = some z)
  (hsize : i.size = size) (hby : i.bytes = bytes) (hzs : z.cells.size = size) (hsz : 0 < size)
  {bs : Nat} {news : List Value} (g : G w0 X ((bs, e, news) :: R) I) (hs : a.eval s = .slice none 0 0) (m : Nat) (hx : a.eval x = .slice (some ⟨bs, 0, none⟩) m m) (hl : news.length = m * size) (h1 : ∀ u ∈ news, u.oneCell' = true)
  (hm : 0 < m) (h63 : m ≤ maxLen) (hbytes : m * bytes ≤ 140737488355328)
  (h : ∀ b cap cs, ∀ g' : G w0 X ((b, e, cs) :: R) I, w0.heap.size ≤ b → Row e size m news cap cs → wpList P ops Q rest (a.put o.dst (.slice (some ⟨b, 0, none⟩) m cap)) g'.w) :
  wpList P ops Q (o :: rest) a g.w := by
 refine wpList_append_g hgd s x t ho e i z size bytes ht hi hz hsize hby hzs hsz g _ 0 [] hs (g.rowNil e size) (by intro m _ h; cases h) (by intro f _ k o _ h; cases h) ⟨bs, 0, none⟩ m m news hx hl ?_ h1 hm (by omega) (by rw [Nat.zero_add]; exact hbytes) ?_
 ·intro j u hj
  have := g.own _ (List.mem_cons_self ..)
  simp only at this
  rw [add_off]
  simp [World.cell?, this, hj]
 ·intro b cap cs g' hb hr
  obtain ⟨g2, e2⟩ := g'.less (M' := (b, e, cs) :: R) (by exact (List.sublist_cons_self _ _).cons_cons _)
  rw [e2]
  rw [Nat.zero_add] at *
  exact h b cap cs g2 hb (by simpa using hr)
/-- 'append' of what was written out, to a slice that the walk owns -/
theorem wpList_append_lit {P : Program} {ops : Array Oper} {rest : List Oper} {o : Oper} {a : Act} {Q : Exit → Act → World → Prop} (hgd : o.guard = none) (s x : Operand) (t : TypeId)
  (ho : o.op = .call { callee := .builtin .append, args := #[s, x], argTypes := #[t, t] })
  (e : TypeId) (i : TypeInfo) (z : Value) (size bytes : Nat) (ht : P.underlying t = some (.slice e)) (hi : P.info? e = some i) (hz : i.zero = some z)
  (hsize : i.size = size) (hby : i.bytes = bytes) (hzs : z.cells.size = size) (hsz : 0 < size)
  {bs b n cap : Nat} {news cs xs : List Value} (g : G w0 X ((bs, e, news) :: (b, e, cs) :: R) I) (hr : Row e size n xs cap cs) (hb : w0.heap.size ≤ b) (hs : a.eval s = .slice (some ⟨b, 0, none⟩) n cap) (m : Nat) (hx : a.eval x = .slice (some ⟨bs, 0, none⟩) m m) (hl : news.length = m * size) (h1 : ∀ u ∈ news, u.oneCell' = true)
  (hm : 0 < m) (h63 : n + m ≤ maxLen) (hbytes : (n + m) * bytes ≤ 140737488355328)
  (h : ∀ b cap cs, ∀ g' : G w0 X ((b, e, cs) :: R) I, w0.heap.size ≤ b → Row e size (n + m) (xs ++ news) cap cs → wpList P ops Q rest (a.put o.dst (.slice (some ⟨b, 0, none⟩) (n + m) cap)) g'.w) :
  wpList P ops Q (o :: rest) a g.w := by
 have hown := g.rowAt hr (List.mem_cons_of_mem _ (List.mem_cons_self ..)) hb
 have hd := g.dist
 have hk := g.keep
 obtain ⟨g1, e1⟩ := g.less (M' := (bs, e, news) :: R) (by exact (List.sublist_cons_self _ _).cons_cons _)
 rw [e1] at hown ⊢
 rw [List.map_cons, List.map_cons, List.nodup_cons, List.nodup_cons, List.mem_cons] at hd
 refine wpList_append_g hgd s x t ho e i z size bytes ht hi hz hsize hby hzs hsz g1 _ n xs hs hown ?_ ?_ ⟨bs, 0, none⟩ m m news hx hl ?_ h1 hm h63 hbytes ?_
 ·intro m hm e'
  have e3 : m.1 = b := Option.some.inj e'
  rcases List.mem_cons.1 hm with rfl | hm
  ·exact hd.1 (.inl e3)
  ·exact hd.2.1 (List.mem_map.2 ⟨m, hm, e3⟩)
 ·intro f hf k o hk' e'
  have e3 : k = b := Option.some.inj e'
  exact (hk f hf k o hk').2 (by rw [List.map_cons, List.map_cons, List.mem_cons, List.mem_cons]; exact .inr (.inl e3))
 ·intro j u hj
  have := g1.own _ (List.mem_cons_self ..)
  simp only at this
  rw [add_off]
  simp [World.cell?, this, hj]
 ·intro b cap cs g' hb hr
  obtain ⟨g2, e2⟩ := g'.less (M' := (b, e, cs) :: R) (by exact (List.sublist_cons_self _ _).cons_cons _)
  rw [e2]
  exact h b cap cs g2 hb hr
end
end Go.Proofs.YthhbbnfnejjpiaaGreatDoor.GW
namespace Go.Proofs.YthhbbnfnejjpiaaGreatDoor.GW
open Go
open Go.RowKit NL
section
variable {w0 : World} {X : List Nat} {R : List Blk} {I : List Frag}
theorem Row.empty (e : TypeId) (size : Nat) : Row e size 0 [] 0 [] := ⟨Nat.le_refl _, by decide, by simp, by simp, by simp⟩
theorem wpList_append_e {P : Program} {ops : Array Oper} {rest : List Oper} {o : Oper} {a : Act} {Q : Exit → Act → World → Prop} (hgd : o.guard = none) (s x : Operand) (t : TypeId)
  (ho : o.op = .call { callee := .builtin .append, args := #[s, x], argTypes := #[t, t] })
  (e : TypeId) (i : TypeInfo) (z : Value) (size bytes : Nat) (ht : P.underlying t = some (.slice e)) (hi : P.info? e = some i) (hz : i.zero = some z)
  (hsize : i.size = size) (hby : i.bytes = bytes) (hzs : z.cells.size = size) (hsz : 0 < size)
  {bk : Nat} (g : G w0 X ((bk, e, []) :: R) I) (hb : w0.heap.size ≤ bk) (hs : a.eval s = .slice (some ⟨bk, 0, none⟩) 0 0)
  (ad : Addr) (m c : Nat) (news : List Value) (hx : a.eval x = .slice (some ad) m c) (hl : news.length = m * size) (hnews : ∀ j u, news[j]? = some u → g.w.cell? (ad.add j) = some u) (h1 : ∀ u ∈ news, u.oneCell' = true)
  (hm : 0 < m) (h63 : m ≤ maxLen) (hbytes : m * bytes ≤ 140737488355328)
  (h : ∀ b cap cs, ∀ g' : G w0 X ((b, e, cs) :: R) I, w0.heap.size ≤ b → Row e size m news cap cs → wpList P ops Q rest (a.put o.dst (.slice (some ⟨b, 0, none⟩) m cap)) g'.w) :
  wpList P ops Q (o :: rest) a g.w := by
 have hown := g.rowAt (Row.empty e size) (List.mem_cons_self ..) hb
 have hap := g.apart
 obtain ⟨g1, e1⟩ := g.less (M' := R) (List.sublist_cons_self _ _)
 rw [e1] at hown hnews ⊢
 refine wpList_append_g hgd s x t ho e i z size bytes ht hi hz hsize hby hzs hsz g1 _ 0 [] hs hown hap.1 hap.2 ad m c news hx hl hnews h1 hm (by omega) (by rw [Nat.zero_add]; exact hbytes) ?_
 intro b cap cs g' hb' hr
 rw [Nat.zero_add] at *
 exact h b cap cs g' hb' (by simpa using hr)
end
theorem sl_row {b cap n : Nat} {T : TypeId} {cs : List Value} {l : List Nat} (h : Row T 1 n (u32s l) cap cs) (hn : l.length = n) (hlen : n ≤ 140737488355328) (hk : Ok l) : (blkF b (.cells cs.toArray T (0, 0))).Sl (some ⟨b, 0, none⟩) cap l := by
 refine ⟨by rw [hn]; exact h.le, h.max, by omega, ?_, hk⟩
 intro hl
 refine ⟨b, 0, rfl, cs.toArray, T, (0, 0), by simp [blkF], fun j hj => ?_⟩
 rw [Nat.zero_add, List.getElem?_toArray, ← u32s_getD hj, ← h.take, List.getElem?_take_of_lt (by omega)]
/-- the cells of a slice of limbs, read as a list -/
theorem lim_news {F : Frag} {b o : Nat} {l : List Nat} {w0 : World} {X : List Nat} {M : List Blk} {I : List Frag} (g : G w0 X M I) (hF : F ∈ I) (h : F.Lim (some ⟨b, o, none⟩) l) : ∀ j u, (u32s l)[j]? = some u → g.w.cell? ((⟨b, o, none⟩ : Addr).add j) = some u := by
 intro j u hj
 have hl : j < l.length := by
  rw [← u32s_len l]
  exact (List.getElem?_eq_some_iff.1 hj).1
 obtain ⟨b', o', e, hc⟩ := g.cell_of hF h (by omega)
 cases e
 rw [u32s_getD hl] at hj
 cases hj
 have ea : (⟨b, o, none⟩ : Addr).add j = ⟨b, o + j, none⟩ := by
  unfold Addr.add
  split
  ·next h0 => subst h0; rfl
  ·rfl
 rw [ea]
 exact hc j hl
end Go.Proofs.YthhbbnfnejjpiaaGreatDoor.GW
namespace Go.Proofs.YthhbbnfnejjpiaaGreatDoor.GW
open Go
open Go.RowKit NL
/-- a call that makes two parts -/
theorem G.new2_ex {w0 : World} {X : List Nat} {M : List Blk} {I : List Frag} (g : G w0 X M I) {w1 : World} {F1 F2 : Frag} (h1 : New g.w w1 F1) (h2 : New g.w w1 F2) : ∃ g' : G w0 X M (F1 :: F2 :: I), w1 = g'.w := by
 obtain ⟨g', rfl⟩ := g.new_ex h2
 refine ⟨g'.see F1 h1.sub fun k o hk => ⟨.inl (Nat.le_trans g.chg.size (h1.new k o hk)), fun hm => ?_⟩, rfl⟩
 obtain ⟨m, hm2, e⟩ := List.mem_map.1 hm
 have := g.lt hm2
 have := h1.new k o hk
 omega
/-- two numbers in new memory -/
def RNN (q r : Nat) (w : World) (e : Ending) (w' : World) : Prop := ∃ A1 c1 F1 A2 c2 F2, e = .returned (.tuple #[.slice A1 (limbs q).length c1, .slice A2 (limbs r).length c2]) ∧ F1.Sl A1 c1 (limbs q) ∧ F2.Sl A2 c2 (limbs r) ∧ New w w' F1 ∧ New w w' F2
theorem G.lessI {w0 : World} {X : List Nat} {M : List Blk} {I I' : List Frag} (g : G w0 X M I) (h : ∀ f ∈ I', f ∈ I) : ∃ g' : G w0 X M I', g.w = g'.w :=
 ⟨⟨g.w, g.chg, g.own, g.may, g.dist, fun f hf => g.sub f (h f hf), fun f hf => g.keep f (h f hf)⟩, rfl⟩
end Go.Proofs.YthhbbnfnejjpiaaGreatDoor.GW
namespace Go.Proofs.YthhbbnfnejjpiaaGreatDoor.GW
open Go
open Go.RowKit NL
/-- In part f, the slice at A reads as the ints l. -/
def Frag.Ints (f : Frag) (A : Option Addr) (l : List Int) : Prop :=
 0 < l.length → ∃ b o, A = some ⟨b, o, none⟩ ∧ ∃ cs T fr, f b = some (.cells cs T fr) ∧ ∀ j, j < l.length → cs[o + j]? = some (.int .i64 (l.getD j 0))
structure Frag.Si (f : Frag) (A : Option Addr) (c : Nat) (l : List Int) : Prop where
 cap : l.length ≤ c
 max : c ≤ 9223372036854775807
 len : l.length ≤ 140737488355328
 ints : f.Ints A l
 ok : ∀ j, -9223372036854775808 ≤ l.getD j 0 ∧ l.getD j 0 < 9223372036854775808
@[reducible] def SiW (w : World) (A : Option Addr) (c : Nat) (l : List Int) : Prop := (heapOf w).Si A c l
section
variable {w0 : World} {X : List Nat} {M : List Blk} {I : List Frag}
end
end Go.Proofs.YthhbbnfnejjpiaaGreatDoor.GW
namespace Go.Proofs.YthhbbnfnejjpiaaGreatDoor.NL
open Go
/-- the rational number of parts -/
def frac (s : Bool) (n d : Nat) : Rat := mkRat (if s then -(n : Int) else (n : Int)) d
def rneg (x : Rat) : Bool := decide (x.num < 0)
def rn (x : Rat) : Nat := x.num.natAbs
theorem sgn_abs (s : Bool) (n : Nat) : (if s then -(n : Int) else (n : Int)).natAbs = n := by cases s <;> simp
theorem frac_self (x : Rat) : frac (rneg x) (rn x) x.den = x := by
 unfold frac rneg rn
 rw [show (if decide (x.num < 0) = true then -(x.num.natAbs : Int) else (x.num.natAbs : Int)) = x.num by
  by_cases h : x.num < 0
  ·rw [if_pos (decide_eq_true h)]; omega
  ·rw [if_neg (by simpa using h)]; omega]
 exact Rat.mkRat_self x
theorem frac_den (s : Bool) {n d : Nat} (hd : d ≠ 0) : (frac s n d).den = d / Nat.gcd n d := by
 unfold frac; rw [Rat.den_mkRat, if_neg hd, sgn_abs, Nat.gcd_comm]
theorem frac_num (s : Bool) {n d : Nat} (hd : d ≠ 0) : (frac s n d).num = if s then -((n / Nat.gcd n d : Nat) : Int) else ((n / Nat.gcd n d : Nat) : Int) := by
 unfold frac
 rw [Rat.num_mkRat, if_neg hd, sgn_abs, Nat.gcd_comm]
 cases s
 ·simp
 ·simp only [if_true]
  rw [Int.neg_ediv_of_dvd (Int.natCast_dvd_natCast.2 (Nat.gcd_dvd_left n d))]
  simp
theorem frac_rn (s : Bool) {n d : Nat} (hd : d ≠ 0) : rn (frac s n d) = n / Nat.gcd n d := by
 unfold rn; rw [frac_num s hd, sgn_abs]
theorem div_gcd_pos {n d : Nat} (hn : n ≠ 0) : n / Nat.gcd n d ≠ 0 := by
 have := Nat.div_pos (Nat.le_of_dvd (Nat.pos_of_ne_zero hn) (Nat.gcd_dvd_left n d)) (Nat.gcd_pos_of_pos_left d (Nat.pos_of_ne_zero hn))
 omega
theorem frac_rneg (s : Bool) {n d : Nat} (hd : d ≠ 0) : rneg (frac s n d) = (s && decide (n ≠ 0)) := by
 unfold rneg
 rw [frac_num s hd]
 cases s
 ·simp
  exact Int.ediv_nonneg (by omega) (by omega)
 ·by_cases hn : n = 0
  ·subst hn; simp
  ·have := div_gcd_pos (d := d) hn
   have h1 : 0 < n / Nat.gcd n d := Nat.pos_of_ne_zero this
   have h2 : -((n / Nat.gcd n d : Nat) : Int) < 0 := by
    have : (0 : Int) < ((n / Nat.gcd n d : Nat) : Int) := Int.natCast_pos.2 h1
    exact Int.neg_neg_of_pos this
   rw [if_pos rfl, decide_eq_true h2, decide_eq_true hn]; rfl
theorem frac_zero (s : Bool) (d : Nat) : frac s 0 d = 0 := by
 unfold frac
 cases s <;> simp
theorem rn_zero_iff (x : Rat) : rn x = 0 ↔ x = 0 := by
 unfold rn; rw [Int.natAbs_eq_zero]; exact Rat.num_eq_zero
theorem rgcd (x : Rat) : Nat.gcd (rn x) x.den = 1 := x.reduced
theorem rneg_ne {x : Rat} (h : rneg x = true) : rn x ≠ 0 := by
 unfold rneg at h; unfold rn
 have := of_decide_eq_true h
 omega
theorem frac_add_same (s : Bool) {n1 d1 n2 d2 : Nat} (h1 : d1 ≠ 0) (h2 : d2 ≠ 0) : frac s n1 d1 + frac s n2 d2 = frac s (n1 * d2 + n2 * d1) (d1 * d2) := by
 unfold frac
 rw [Rat.mkRat_add_mkRat _ _ h1 h2]
 congr 1
 cases s
 ·simp
 ·simp only [if_true]
  rw [Int.natCast_add, Int.natCast_mul, Int.natCast_mul]
  rw [Int.neg_mul, Int.neg_mul]
  omega
theorem frac_neg (s : Bool) (n d : Nat) : -frac s n d = frac (!s) n d := by
 unfold frac
 rw [Rat.neg_mkRat]
 congr 1
 cases s <;> simp
theorem frac_add_lt {s t : Bool} (hst : s ≠ t) {n1 d1 n2 d2 : Nat} (h1 : d1 ≠ 0) (h2 : d2 ≠ 0) (h : n1 * d2 < n2 * d1) : frac s n1 d1 + frac t n2 d2 = frac t (n2 * d1 - n1 * d2) (d1 * d2) := by
 unfold frac
 rw [Rat.mkRat_add_mkRat _ _ h1 h2]
 congr 1
 have e1 : ((n1 : Int) * (d2 : Int)) = ((n1 * d2 : Nat) : Int) := (Int.natCast_mul _ _).symm
 have e2 : ((n2 : Int) * (d1 : Int)) = ((n2 * d1 : Nat) : Int) := (Int.natCast_mul _ _).symm
 cases s <;> cases t <;> simp only [if_true, Bool.false_eq_true, if_false, Int.neg_mul, e1, e2] <;> first | exact absurd rfl hst | omega
theorem frac_add_ge {s t : Bool} (hst : s ≠ t) {n1 d1 n2 d2 : Nat} (h1 : d1 ≠ 0) (h2 : d2 ≠ 0) (h : ¬ n1 * d2 < n2 * d1) : frac s n1 d1 + frac t n2 d2 = frac s (n1 * d2 - n2 * d1) (d1 * d2) := by
 unfold frac
 rw [Rat.mkRat_add_mkRat _ _ h1 h2]
 congr 1
 have e1 : ((n1 : Int) * (d2 : Int)) = ((n1 * d2 : Nat) : Int) := (Int.natCast_mul _ _).symm
 have e2 : ((n2 : Int) * (d1 : Int)) = ((n2 * d1 : Nat) : Int) := (Int.natCast_mul _ _).symm
 cases s <;> cases t <;> simp only [if_true, Bool.false_eq_true, if_false, Int.neg_mul, e1, e2] <;> first | exact absurd rfl hst | omega
theorem frac_mul (s t : Bool) (n1 d1 n2 d2 : Nat) : frac s n1 d1 * frac t n2 d2 = frac (s != t) (n1 * n2) (d1 * d2) := by
 unfold frac
 rw [Rat.mkRat_mul_mkRat]
 congr 1
 cases s <;> cases t <;> simp [Int.neg_mul, Int.mul_neg, Int.neg_neg]
theorem frac_inv (s : Bool) {n d : Nat} (hn : n ≠ 0) : (frac s n d)⁻¹ = frac s d n := by
 by_cases hd : d = 0
 ·subst hd; unfold frac; cases s <;> simp
 have h0 : frac s n d ≠ 0 := by
  intro h
  have := (rn_zero_iff _).2 h
  rw [frac_rn s hd] at this
  exact div_gcd_pos hn this
 have hm : frac s n d * frac s d n = 1 := by
  rw [frac_mul]
  unfold frac
  rw [show (s != s) = false by cases s <;> rfl]
  simp only [Bool.false_eq_true, if_false]
  rw [Nat.mul_comm d n]
  have h1 : ((n * d : Nat) : Rat) ≠ 0 := by
   intro h
   exact Nat.mul_ne_zero hn hd (by exact_mod_cast h)
  rw [Rat.mkRat_eq_div]
  rw [show (((n * d : Nat) : Int) : Rat) = ((n * d : Nat) : Rat) from rfl]
  rw [Rat.div_def]
  exact Rat.mul_inv_cancel _ h1
 grind
end Go.Proofs.YthhbbnfnejjpiaaGreatDoor.NL
namespace Go.Proofs.YthhbbnfnejjpiaaGreatDoor.NL
open Go
/-- the number of bits -/
def nb (v : Nat) : Nat := if v = 0 then 0 else Nat.log2 v + 1
theorem nb_le (v k : Nat) : nb v ≤ k ↔ v < 2 ^ k := by
 unfold nb
 by_cases h : v = 0
 ·rw [if_pos h, h]; exact ⟨fun _ => Nat.two_pow_pos k, fun _ => Nat.zero_le _⟩
 ·rw [if_neg h]
  exact (Nat.log2_lt h)
theorem nb_zero : nb 0 = 0 := rfl
theorem nb_pos {v : Nat} (h : v ≠ 0) : 0 < nb v := by unfold nb; rw [if_neg h]; omega
theorem nb_ge {v : Nat} (h : v ≠ 0) : 2 ^ (nb v - 1) ≤ v := by
 rcases Nat.lt_or_ge v (2 ^ (nb v - 1)) with h1 | h1
 ·have := (nb_le v _).2 h1
  have := nb_pos h
  omega
 ·exact h1
theorem nb_lt (v : Nat) : v < 2 ^ nb v := (nb_le v _).1 (Nat.le_refl _)
theorem nb_uniq {v k : Nat} (h : v < 2 ^ k) (h2 : k = 0 ∨ 2 ^ (k - 1) ≤ v) : nb v = k := by
 have h1 := (nb_le v k).2 h
 rcases h2 with h2 | h2
 ·omega
 ·rcases Nat.lt_or_ge (nb v) k with h3 | h3
  ·have := (nb_le v (k - 1)).1 (by omega); omega
  ·omega
theorem nb_bitLen (x : Nat) (h : x < 4294967296) : Lib.bitLen x = nb x := by
 by_cases h0 : x = 0
 ·subst h0; rfl
 ·obtain ⟨h1, h2, h3⟩ := Lib.bitLenAux_bounds 64 x (by omega) h0
  exact (nb_uniq h3 (.inr h2)).symm
theorem pow32 (k : Nat) : 4294967296 ^ k = 2 ^ (32 * k) := by rw [Nat.pow_mul]
theorem nb_top {v m : Nat} (h : (limbs v).length = m + 1) : nb v = 32 * m + nb ((limbs v).getD m 0) := by
 have s := val_split (limbs v) m (by omega)
 rw [val_limbs, val_drop_getD, List.drop_of_length_le (by omega), show val [] = 0 from rfl, Nat.mul_zero, Nat.add_zero] at s
 have b := val_lt ((ok_limbs v).take m)
 rw [List.length_take, Nat.min_eq_left (by omega)] at b
 have t0 := trim_limbs v m h
 generalize (limbs v).getD m 0 = t at *
 generalize val ((limbs v).take m) = r at *
 have h1 := nb_lt t
 have h2 := nb_ge t0
 have h3 := nb_pos t0
 rw [pow32] at s b
 apply nb_uniq
 ·rw [Nat.pow_add]
  have := Nat.mul_le_mul_left (2 ^ (32 * m)) (Nat.succ_le_of_lt h1)
  rw [Nat.mul_succ] at this
  omega
 ·right
  rw [show 32 * m + nb t - 1 = 32 * m + (nb t - 1) by omega, Nat.pow_add]
  have := Nat.mul_le_mul_left (2 ^ (32 * m)) h2
  omega
theorem val_div (l : List Nat) (h : Ok l) (k : Nat) : val l / 4294967296 ^ k = val (l.drop k) := by
 induction k generalizing l with
 | zero => simp
 | succ k ih =>
  cases l with
  | nil => simp [val]
  | cons x l =>
   have hx := h.head
   rw [Nat.pow_succ, Nat.mul_comm, ← Nat.div_div_eq_div_mul, val, show (x + 4294967296 * val l) / 4294967296 = val l by omega, ih l h.tail, List.drop_succ_cons]
theorem getD_val (l : List Nat) (h : Ok l) (k : Nat) : l.getD k 0 = val l / 4294967296 ^ k % 4294967296 := by
 rw [val_div l h k, val_drop_getD]
 have := h.getD k
 omega
theorem val_mod (l : List Nat) (h : Ok l) (k : Nat) : val l % 4294967296 ^ k = val (l.take k) := by
 rcases Nat.lt_or_ge l.length k with hk | hk
 ·rw [val_take_all (by omega)]
  exact Nat.mod_eq_of_lt (Nat.lt_of_lt_of_le (val_lt h) (Nat.pow_le_pow_right (by decide) (by omega)))
 ·have s := val_split l k hk
  have b := val_lt (h.take k)
  rw [List.length_take, Nat.min_eq_left hk] at b
  rw [s, Nat.add_mul_mod_self_left, Nat.mod_eq_of_lt b]
end Go.Proofs.YthhbbnfnejjpiaaGreatDoor.NL
namespace Go.Proofs.YthhbbnfnejjpiaaGreatDoor.NL
open Go
/-- digits from the lowest: the number T's lowest k limbs -/
theorem mod_step {T k p x : Nat} (h : p = T % 4294967296 ^ k) (hx : x = T / 4294967296 ^ k % 4294967296) : p + 4294967296 ^ k * x = T % 4294967296 ^ (k + 1) := by
 rw [Nat.pow_succ, Nat.mod_mul, h, hx]
theorem low_step {pre : List Nat} {T k x : Nat} (hp : pre.length = k) (h : val pre = T % 4294967296 ^ k) (hx : x = T / 4294967296 ^ k % 4294967296) : val (pre ++ [x]) = T % 4294967296 ^ (k + 1) := by
 rw [val_snoc, hp]; exact mod_step h hx
/-- a limb of a number shifted down by less than a limb -/
theorem down_limb {l : List Nat} (h : Ok l) (k s : Nat) (hs : s < 32) : (l.getD k 0 + 4294967296 * l.getD (k + 1) 0) / 2 ^ s % 4294967296 = val l / 2 ^ s / 4294967296 ^ k % 4294967296 := by
 rw [Nat.div_div_eq_div_mul, Nat.mul_comm (2 ^ s), ← Nat.div_div_eq_div_mul, val_div l h k]
 have e := val_drop_getD l k
 have e2 := val_drop_getD l (k + 1)
 rw [e2] at e
 rw [e]
 generalize val (l.drop (k + 1 + 1)) = z
 generalize l.getD k 0 = x
 generalize l.getD (k + 1) 0 = y
 have hd : (4294967296 : Nat) * 4294967296 = 2 ^ s * (2 ^ (32 - s) * 4294967296) := by
  rw [← Nat.mul_assoc, ← Nat.pow_add, show s + (32 - s) = 32 by omega]
 have : x + 4294967296 * (y + 4294967296 * z) = (x + 4294967296 * y) + 2 ^ s * (4294967296 * (2 ^ (32 - s) * z)) := by
  rw [Nat.mul_add, ← Nat.mul_assoc 4294967296 4294967296 z, hd]
  rw [Nat.mul_assoc (2 ^ s), Nat.mul_assoc (2 ^ (32 - s)), Nat.mul_left_comm (2 ^ (32 - s)) 4294967296 z]
  omega
 rw [this, Nat.add_mul_div_left _ _ (Nat.two_pow_pos s), Nat.add_mul_mod_self_left]
/-- the numbers behind the first limbs -/
theorem div_pow_split {v m : Nat} : v / 2 ^ m = v / 4294967296 ^ (m / 32) / 2 ^ (m % 32) := by
 rw [Nat.div_div_eq_div_mul, pow32, ← Nat.pow_add, Nat.div_add_mod]
theorem down_end {pre l : List Nat} {n s : Nat} (hl : Ok l) (hn : l.length ≤ n) (h : val pre = val l / 2 ^ s % 4294967296 ^ n) : val pre = val l / 2 ^ s := by
 rw [h]
 apply Nat.mod_eq_of_lt
 have h1 := val_lt hl
 have h2 : 4294967296 ^ l.length ≤ 4294967296 ^ n := Nat.pow_le_pow_right (by decide) hn
 have := Nat.div_le_self (val l) (2 ^ s)
 omega
theorem val_set' {out : List Nat} {i : Nat} (hi : i < out.length) (x : Nat) : val (out.set i x) + 4294967296 ^ i * out.getD i 0 = val out + 4294967296 ^ i * x := by
 induction out generalizing i with
 | nil => simp at hi
 | cons y l ih =>
  cases i with
  | zero => simp [val]; omega
  | succ i =>
   rw [List.set_cons_succ, val, val, List.getD_cons_succ]
   have := ih (i := i) (by simpa using hi)
   rw [Nat.pow_succ, Nat.mul_comm _ 4294967296, Nat.mul_assoc, Nat.mul_assoc]
   omega
end Go.Proofs.YthhbbnfnejjpiaaGreatDoor.NL
namespace Go.Proofs.YthhbbnfnejjpiaaGreatDoor.NL
open Go
/-- the quotient's limb is not more than what the highest limbs tell -/
theorem guess_ge {R d top head P q : Nat} (htop : 0 < top) (h1 : P * top ≤ d) (h2 : R < P * (head + 1)) (hq : q * d ≤ R) : q ≤ head / top := by
 rw [Nat.le_div_iff_mul_le htop]
 have h3 : P * (q * top) ≤ q * d := by rw [Nat.mul_left_comm]; exact Nat.mul_le_mul_left q h1
 have h4 : P * (q * top) < P * (head + 1) := by omega
 have := Nat.lt_of_mul_lt_mul_left h4
 omega
theorem quot_lt {R d : Nat} (h : R < 4294967296 * d) : R / d < 4294967296 := Nat.div_lt_of_lt_mul (by rwa [Nat.mul_comm] at h)
end Go.Proofs.YthhbbnfnejjpiaaGreatDoor.NL
namespace Go.Proofs.YthhbbnfnejjpiaaGreatDoor.GW
open Go
open Go.RowKit NL
section
variable {w0 : World} {X : List Nat} {M : List Blk} {I : List Frag}
theorem G.setRow_ex (g : G w0 X M I) (n : Nat) {b : Nat} {T : TypeId} {cs : List Value} (hn : M[n]? = some (b, T, cs)) (cs' : List Value) :
  ∃ g' : G w0 X (M.set n (b, T, cs')) I, g.w.setRow b cs'.toArray = g'.w := by
 have hm := g.own _ (List.mem_of_getElem? hn)
 refine ⟨g.turn n hn cs' (g.w.setRow b cs'.toArray) ⟨g.chg.os, g.chg.tape, g.chg.output, by rw [setRow_size]; exact g.chg.size, fun k hk hx => ?_⟩ (setRow_heap _ _ _ _ _ _ hm) (fun k _ hne => setRow_other _ _ _ _ hne), rfl⟩
 rw [setRow_other _ _ _ _ (by
  rintro rfl
  rcases g.may _ (List.mem_of_getElem? hn) with h | h
  ·simp only at h; omega
  ·exact hx h)]
 exact g.chg.block k hk hx
theorem wpList_copy_g {P : Program} {ops : Array Oper} {rest : List Oper} {o : Oper} {a : Act} {Q : Exit → Act → World → Prop} (hgd : o.guard = none) (d s : Operand) (dT sT : TypeId)
  (ho : o.op = .call { callee := .builtin .copy, args := #[d, s], argTypes := #[dT, sT] }) (elem : TypeId) (hu : P.underlying dT = some (.slice elem)) (hsz : (P.info? elem).map (·.size) = some 1)
  (dp sp : Option Addr) (dLen dCap sLen sCap : Nat) (hd : a.eval d = .slice dp dLen dCap) (hs : a.eval s = .slice sp sLen sCap)
  (g : G w0 X M I) (n : Nat) {b : Nat} {T : TypeId} {cur : List Value} (hM : M[n]? = some (b, T, cur)) (off : Nat) (cs : List Value) (hn : cs.length = Nat.min sLen dLen)
  (hpos : 0 < cs.length → dp = some ⟨b, off, none⟩ ∧ ∃ ad, sp = some ad ∧ ∀ j v, cs[j]? = some v → g.w.cell? (ad.add j) = some v)
  (hfit : off + cs.length ≤ cur.length) (h1 : ∀ v ∈ cs, v.oneCell' = true)
  (h : ∀ g' : G w0 X (M.set n (b, T, splice cur off cs)) I, wpList P ops Q rest (a.put o.dst (goInt cs.length)) g'.w) :
  wpList P ops Q (o :: rest) a g.w := by
 by_cases h0 : cs.length = 0
 ·obtain rfl : cs = [] := List.eq_nil_of_length_eq_zero h0
  refine wpList_copy_nothing hgd d s dT sT ho elem hu hsz dp sp dLen dCap sLen sCap hd hs (by simpa using hn.symm) ?_
  have e : M.set n (b, T, splice cur off []) = M := by
   rw [show splice cur off [] = cur by simp [splice]]
   have hl : n < M.length := (List.getElem?_eq_some_iff.1 hM).1
   have hv : M[n] = (b, T, cur) := (List.getElem?_eq_some_iff.1 hM).2
   rw [← hv]
   exact List.set_getElem_self hl
  obtain ⟨g2, e2⟩ := g.as e.symm
  have := h g2
  rw [← e2] at this
  exact this
 ·obtain ⟨rfl, ad, rfl, hsrc⟩ := hpos (by omega)
  have hg := g.own _ (List.mem_of_getElem? hM)
  refine wpList_copy_own hgd d s dT sT ho elem hu hsz b off dLen dCap ad sLen sCap hd hs cur.toArray T hg cs hn hsrc (by simpa using hfit) h1 ?_
  obtain ⟨g', e⟩ := g.setRow_ex n hM (splice cur off cs)
  have := h g'
  rw [← e] at this
  exact this
end
end Go.Proofs.YthhbbnfnejjpiaaGreatDoor.GW
namespace Go.Proofs.YthhbbnfnejjpiaaGreatDoor.NL
open Go
theorem getD_drop (l : List Nat) (o i : Nat) : (l.drop o).getD i 0 = l.getD (o + i) 0 := by
 rw [List.getD_eq_getElem?_getD, List.getD_eq_getElem?_getD, List.getElem?_drop]
theorem ext_getD {l m : List Nat} (hl : l.length = m.length) (h : ∀ j, l.getD j 0 = m.getD j 0) : l = m := by
 apply List.ext_getElem hl
 intro j h1 h2
 have := h j
 rwa [List.getD_eq_getElem?_getD, List.getD_eq_getElem?_getD, List.getElem?_eq_getElem h1, List.getElem?_eq_getElem h2] at this
/-- long division: j limbs of the quotient are still to be found -/
structure Dv (V D n m j : Nat) (r q : List Nat) : Prop where
 rlen : r.length = n + m
 rok : Ok r
 qlen : q.length = m
 qok : Ok q
 qz : ∀ i, i < j → q.getD i 0 = 0
 eq : val r + val q * D = V
 lt : val (r.drop j) < D
theorem Dv.start {V D n m : Nat} {r : List Nat} (h1 : r.length = n + m) (h2 : Ok r) (h3 : val r = V) (h4 : V < 4294967296 ^ m * D) : Dv V D n m m r (List.replicate m 0) :=
 ⟨h1, h2, by simp, Ok.zeros _, fun i _ => by simp [List.getElem?_replicate]; split <;> rfl, by rw [val_zeros]; omega, by
  rw [← val_div r h2, h3]
  exact Nat.div_lt_of_lt_mul h4⟩
/-- the limbs that are divided -/
theorem Dv.seg {V D n m j : Nat} {r q : List Nat} (h : Dv V D n m (j + 1) r q) (hD : D ≤ 4294967296 ^ n) :
  val ((r.drop j).take (n + 1)) = val (r.drop j) ∧ val (r.drop j) < 4294967296 * D ∧ val (r.drop (j + (n + 1))) = 0 := by
 have e := val_drop_getD r j
 have hl := h.lt
 have hx := h.rok.getD j
 have h1 : val (r.drop j) < 4294967296 * D := by omega
 have h2 : 4294967296 * D ≤ 4294967296 ^ (n + 1) := by
  rw [Nat.pow_succ, Nat.mul_comm]; exact Nat.mul_le_mul_right _ hD
 refine ⟨?_, h1, ?_⟩
 ·rw [← val_mod _ (h.rok.drop j), Nat.mod_eq_of_lt (by omega)]
 ·rw [← List.drop_drop, ← val_div _ (h.rok.drop j), Nat.div_eq_of_lt (by omega)]
/-- the guess from the two highest limbs is not too small -/
theorem Dv.guess {V n m j : Nat} {r q d : List Nat} (h : Dv V (val d) (n + 1) m (j + 1) r q) (hd : Ok d) (hn : d.length = n + 1) (htop : 0 < d.getD n 0) :
  val (r.drop j) / val d ≤ (r.getD (j + (n + 1)) 0 * 4294967296 + r.getD (j + n) 0) / d.getD n 0 ∧ val (r.drop j) / val d < 4294967296 := by
 have hD : val d ≤ 4294967296 ^ (n + 1) := by have := val_lt hd; rw [hn] at this; omega
 obtain ⟨e1, e2, e3⟩ := h.seg hD
 have hd1 : 4294967296 ^ n * d.getD n 0 ≤ val d := by
  have := val_split d n (by omega)
  rw [val_drop_getD] at this
  have h2 : 4294967296 ^ n * d.getD n 0 ≤ 4294967296 ^ n * (d.getD n 0 + 4294967296 * val (d.drop (n + 1))) := Nat.mul_le_mul_left _ (by omega)
  omega
 have hdp : 0 < val d := Nat.lt_of_lt_of_le (Nat.mul_pos (Nat.pow_pos (by decide)) htop) hd1
 refine ⟨guess_ge (R := val (r.drop j)) htop hd1 ?_ (Nat.div_mul_le_self _ _), quot_lt e2⟩
 have s := val_append ((r.drop j).take n) ((r.drop j).drop n)
 rw [List.take_append_drop] at s
 rw [List.drop_drop, val_drop_getD r (j + n), val_drop_getD r (j + n + 1), show j + n + 1 + 1 = j + (n + 1 + 1) by omega, e3] at s
 have b := val_lt ((h.rok.drop j).take n)
 have hlen : 4294967296 ^ ((r.drop j).take n).length ≤ 4294967296 ^ n := Nat.pow_le_pow_right (by decide) (by rw [List.length_take]; omega)
 have hlen2 : ((r.drop j).take n).length = n ∨ val ((r.drop j).drop n) = 0 := by
  rcases Nat.lt_or_ge (r.drop j).length n with hh | hh
  ·right; rw [List.drop_of_length_le (by omega)]; rfl
  ·left; rw [List.length_take]; omega
 rw [show j + (n + 1) = j + n + 1 by omega]
 rcases hlen2 with hh | hh
 ·rw [hh] at s b
  have : 4294967296 ^ n * (r.getD (j + n) 0 + 4294967296 * (r.getD (j + n + 1) 0 + 4294967296 * 0)) = 4294967296 ^ n * (r.getD (j + n + 1) 0 * 4294967296 + r.getD (j + n) 0) := by congr 1; omega
  rw [s, this, Nat.mul_add (4294967296 ^ n) (r.getD (j + n + 1) 0 * 4294967296 + r.getD (j + n) 0) 1, Nat.mul_one]
  omega
 ·rw [List.drop_drop, val_drop_getD, val_drop_getD r (j + n + 1), show j + n + 1 + 1 = j + (n + 1 + 1) by omega, e3] at hh
  rw [hh, Nat.mul_zero] at s
  have h5 : 4294967296 ^ n * 1 ≤ 4294967296 ^ n * (r.getD (j + n + 1) 0 * 4294967296 + r.getD (j + n) 0 + 1) := Nat.mul_le_mul_left _ (by omega)
  omega
theorem Dv.next {V D n m j : Nat} {r q r' : List Nat} {x : Nat} (h : Dv V D n m (j + 1) r q) (hD : D ≤ 4294967296 ^ n) (hj : j < m) (hx : x < 4294967296) (hxe : x = val (r.drop j) / D) (hDp : 0 < D)
  (hl : r'.length = r.length) (hok : Ok r') (ho : ∀ i, (i < j ∨ j + (n + 1) ≤ i) → r'.getD i 0 = r.getD i 0) (hv : val ((r'.drop j).take (n + 1)) = val ((r.drop j).take (n + 1)) - D * x) :
  Dv V D n m j r' (q.set j x) := by
 obtain ⟨e1, e2, e3⟩ := h.seg hD
 have hrl := h.rlen
 have hql := h.qlen
 have hmx : D * x ≤ val (r.drop j) := by rw [hxe]; exact Nat.mul_div_le _ _
 have hmod : val (r.drop j) - D * x < D := by
  have := Nat.mod_lt (val (r.drop j)) hDp
  have h2 := Nat.div_add_mod (val (r.drop j)) D
  rw [← hxe] at h2
  omega
 have ed : r'.drop (j + (n + 1)) = r.drop (j + (n + 1)) := by
  apply ext_getD (by simp [hl])
  intro i
  rw [getD_drop, getD_drop]
  exact ho _ (.inr (by omega))
 have et : r'.take j = r.take j := by
  apply ext_getD (by simp [hl])
  intro i
  rcases Nat.lt_or_ge i j with hi | hi
  ·rw [List.getD_eq_getElem?_getD, List.getD_eq_getElem?_getD, List.getElem?_take_of_lt hi, List.getElem?_take_of_lt hi, ← List.getD_eq_getElem?_getD, ← List.getD_eq_getElem?_getD]
   exact ho i (.inl hi)
  ·rw [List.getD_eq_getElem?_getD, List.getD_eq_getElem?_getD, List.getElem?_eq_none (by simp; omega), List.getElem?_eq_none (by simp; omega)]
 have ev : val (r'.drop j) = val (r.drop j) - D * x := by
  have s := val_append ((r'.drop j).take (n + 1)) ((r'.drop j).drop (n + 1))
  rw [List.take_append_drop, List.drop_drop, ed, e3, hv, e1] at s
  omega
 refine ⟨by omega, hok, by rw [List.length_set]; exact h.qlen, h.qok.set _ hx, ?_, ?_, by omega⟩
 ·intro i hi
  rw [getD_set_ne (by omega)]
  exact h.qz i (by omega)
 ·have heq := h.eq
  have hq := val_set' (out := q) (i := j) (by omega) x
  rw [h.qz j (by omega), Nat.mul_zero, Nat.add_zero] at hq
  rw [hq]
  have s1 := val_split r j (by omega)
  have s2 := val_split r' j (by omega)
  rw [et, ev, Nat.mul_sub] at s2
  have h6 : 4294967296 ^ j * (D * x) ≤ 4294967296 ^ j * val (r.drop j) := Nat.mul_le_mul_left _ hmx
  rw [Nat.add_mul, Nat.mul_assoc, Nat.mul_comm x D]
  omega
theorem Dv.stop {a b u n m : Nat} {r q : List Nat} (h : Dv (a * 2 ^ u) (b * 2 ^ u) n m 0 r q) (hb : 0 < b) : val q = a / b ∧ val r = a % b * 2 ^ u := by
 have heq := h.eq
 have hlt := h.lt
 rw [List.drop_zero] at hlt
 have hp := Nat.two_pow_pos u
 have hbp : 0 < b * 2 ^ u := Nat.mul_pos hb hp
 have e1 : a * 2 ^ u / (b * 2 ^ u) = val q := by
  rw [← heq, Nat.mul_comm (val q), Nat.add_mul_div_left _ _ hbp, Nat.div_eq_of_lt hlt, Nat.zero_add]
 have e2 : a * 2 ^ u % (b * 2 ^ u) = val r := by
  rw [← heq, Nat.mul_comm (val q), Nat.add_mul_mod_self_left, Nat.mod_eq_of_lt hlt]
 rw [Nat.mul_div_mul_right _ _ hp] at e1
 rw [Nat.mul_mod_mul_right] at e2
 exact ⟨e1.symm, e2.symm⟩
/-- the shift that makes the highest bit 1 -/
theorem norm_up {b n : Nat} (hb : b ≠ 0) (hn : (limbs b).length = n + 1) : ∃ u, u = 32 - nb ((limbs b).getD n 0) ∧ u < 32 ∧ (limbs (b * 2 ^ u)).length = n + 1 ∧ 2 ^ (32 * (n + 1) - 1) ≤ b * 2 ^ u := by
 have h1 := nb_top hn
 have ht := trim_limbs b n hn
 have h2 := nb_pos ht
 have h3 : nb ((limbs b).getD n 0) ≤ 32 := (nb_le _ _).2 (by have := (ok_limbs b).getD n; omega)
 refine ⟨_, rfl, by omega, ?_, ?_⟩
 ·have hlt : b * 2 ^ (32 - nb ((limbs b).getD n 0)) < 4294967296 ^ (n + 1) := by
   have := nb_lt b
   rw [pow32]
   have h4 : 2 ^ (32 * (n + 1)) = 2 ^ nb b * 2 ^ (32 - nb ((limbs b).getD n 0)) := by rw [← Nat.pow_add]; congr 1; omega
   rw [h4]
   exact Nat.mul_lt_mul_of_pos_right this (Nat.two_pow_pos _)
  have l1 := (limbs_len (b * 2 ^ (32 - nb ((limbs b).getD n 0))) (n + 1)).2 hlt
  have l2 := limbs_len_mono (m := b) (n := b * 2 ^ (32 - nb ((limbs b).getD n 0))) (Nat.le_mul_of_pos_right _ (Nat.two_pow_pos _))
  omega
 ·have := nb_ge hb
  have h4 : 2 ^ (32 * (n + 1) - 1) = 2 ^ (nb b - 1) * 2 ^ (32 - nb ((limbs b).getD n 0)) := by rw [← Nat.pow_add]; congr 1; omega
  rw [h4]
  exact Nat.mul_le_mul_right _ this
theorem norm_lt {a b u n m : Nat} (hu : u < 32) (hD : 2 ^ (32 * (n + 1) - 1) ≤ b * 2 ^ u) (hm : (limbs a).length + 1 = n + 1 + m) : a * 2 ^ u < 4294967296 ^ m * (b * 2 ^ u) := by
 have h1 := (limbs_len a _).1 (Nat.le_refl _)
 have h2 : a * 2 ^ u < 4294967296 ^ (limbs a).length * 2 ^ u := Nat.mul_lt_mul_of_pos_right h1 (Nat.two_pow_pos u)
 have h3 : 4294967296 ^ (limbs a).length * 2 ^ u ≤ 4294967296 ^ m * 2 ^ (32 * (n + 1) - 1) := by
  rw [pow32, pow32, ← Nat.pow_add, ← Nat.pow_add]
  exact Nat.pow_le_pow_right (by decide) (by omega)
 have h4 := Nat.mul_le_mul_left (4294967296 ^ m) hD
 omega
/-- the shifted number, with zeros behind it -/
theorem pad_limbs {a u k : Nat} (hu : u < 32) (hk : (limbs a).length + 1 = k) : (limbs (a * 2 ^ u)).length ≤ k := by
 have h1 := (limbs_len a _).1 (Nat.le_refl _)
 refine (limbs_len _ _).2 ?_
 have h2 : a * 2 ^ u < 4294967296 ^ (limbs a).length * 2 ^ u := Nat.mul_lt_mul_of_pos_right h1 (Nat.two_pow_pos u)
 have h3 : (2 : Nat) ^ u ≤ 2 ^ 32 := Nat.pow_le_pow_right (by decide) (by omega)
 have h4 := Nat.mul_le_mul_left (4294967296 ^ (limbs a).length) h3
 rw [← hk, Nat.pow_succ]
 omega
theorem val_pad (l : List Nat) (k : Nat) : val (l ++ List.replicate k 0) = val l := by rw [val_append, val_zeros, Nat.mul_zero, Nat.add_zero]
end Go.Proofs.YthhbbnfnejjpiaaGreatDoor.NL
namespace Go.Proofs.YthhbbnfnejjpiaaGreatDoor.GW
open Go
open Go.RowKit NL
theorem seg_len {out : List Nat} {o k : Nat} (hk : o + k ≤ out.length) : ((out.drop o).take k).length = k := by
 rw [List.length_take, List.length_drop]; omega
theorem seg_getD {out : List Nat} {o k j : Nat} (hj : j < k) : ((out.drop o).take k).getD j 0 = out.getD (o + j) 0 := by
 rw [getD_take hj, getD_drop]
theorem sl_seg {b : Nat} {T : TypeId} {out : List Nat} {fr : Nat × Nat} {o k c : Nat} (hk : o + k ≤ out.length) (hc : k ≤ c) (hc2 : c ≤ 140737488355328) (ho : Ok out) : (blkF b (.cells (u32s out).toArray T fr)).Sl (some ⟨b, o, none⟩) c ((out.drop o).take k) := by
 have hl := seg_len hk
 refine ⟨by omega, by omega, by omega, ?_, (ho.drop o).take k⟩
 intro _
 refine ⟨b, o, rfl, (u32s out).toArray, T, fr, by simp [blkF], fun j hj => ?_⟩
 rw [List.getElem?_toArray, seg_getD (by omega)]
 exact u32s_getD (by omega)
theorem splice_u32s (l : List Nat) (o : Nat) (s : List Nat) : splice (u32s l) o (u32s s) = u32s (l.take o ++ (s ++ l.drop (o + s.length))) := by
 simp [splice, u32s]
end Go.Proofs.YthhbbnfnejjpiaaGreatDoor.GW
namespace Go.Proofs.YthhbbnfnejjpiaaGreatDoor.GW
open Go
open Go Go.RowKit
def noDefer (ops : Array Oper) : Bool := ops.all fun o => match o.op with | .defer _ => false | _ => true
theorem noDefer_at {ops : Array Oper} (h : noDefer ops = true) {i : Nat} {o : Oper} (ho : ops[i]? = some o) : ∀ c, o.op ≠ .defer c := by
 intro c e
 have hm := Array.mem_of_getElem? ho
 have := Array.all_eq_true_iff_forall_mem.1 h o hm
 rw [e] at this
 cases this
theorem RowsIn_next {P : Program} {row : String} {args : Array Value} {w : World} {R R' : Value → World → Prop} (h : Rows P row args w R) (hr : ∀ v w', R v w' → R' v w') : Rows P row args w R' := h.mono hr
theorem rowsIn_wide {P : Program} {row : String} {args : Array Value} {w : World} {R : Value → World → Prop} {l n : Nat} (h : Rows P row args w R) : RowsIn (Fence.wide.inRound l) n P row args w R := by
 intro c cs _
 obtain ⟨v, w', r, s⟩ := h c cs
 exact ⟨v, w', r, stepsIn_wide.2 s⟩
theorem upon_inRound {P : Program} {o : Oper} {a : Act} {next next' : Act → World → Prop} {Q : Exit → Act → World → Prop} {l n : Nat} (hn : ∀ a w, next a w → next' a w) (r : Result Next) (h : o.upon P a next Q r) :
  o.uponIn (Fence.wide.inRound l) n P a next' Q r := by
 cases r with
 | ok x w =>
  cases x
  case value v => exact hn _ _ h
  case skip => exact hn _ _ h
  case defer d => exact hn _ _ h
  case enter f args =>
   refine ⟨fun h => (by cases h), CallsIn.inRound l (callsIn_wide.2 ?_)⟩
   refine Calls.mono h ?_
   intro e w' he
   cases e with
   | returned v => exact hn _ _ he
   | panicked c => exact he
   | outgrown => exact he
  case row r args => exact ⟨fun h => (by cases h), rowsIn_wide (RowsIn_next h (fun v w' h' => hn _ _ h'))⟩
  all_goals exact False.elim h
 | halt x w =>
  cases x <;> first | exact h | exact False.elim h
theorem wpAny_inRound {P : Program} {md : Region.Mode} {ops : Array Oper} {Q : Exit → Act → World → Prop} {l n : Nat} (hlo : ¬ LetsOut Q) (hnd : noDefer ops = true) :
  ∀ (fuel : Nat) (listed : Array Bool) (a : Act) (w : World), wpAny P md ops Q fuel listed a w → wpAnyIn (Fence.wide.inRound l) n P md ops Q fuel listed a w
 | 0, _, _, _, h => h
 | fuel + 1, listed, a, w, h => by
  refine ⟨h.1, fun i hi => ?_⟩
  have hs := h.2 i hi
  unfold wpOp at hs
  unfold wpOpIn
  cases ho : ops[i]? with
  | none => rw [ho] at hs; exact wpAny_inRound hlo hnd fuel _ a w hs
  | some o =>
   rw [ho] at hs
   dsimp only at hs ⊢
   split
   ·next hw =>
    rw [if_pos hw] at hs
    rcases hs with hs | hs
    ·refine ⟨fun _ _ => trivial, ?_⟩
     rw [Oper.semAt_eq _ _ _ (noDefer_at hnd ho)]
     exact upon_inRound (fun a' w' h' => wpAny_inRound hlo hnd fuel _ a' w' h') _ hs
    ·exact absurd hs.2 hlo
   ·next hw =>
    rw [if_neg hw] at hs
    exact ⟨fun _ _ => trivial, wpAny_inRound hlo hnd fuel _ _ w hs⟩
theorem wpIn_round_held {P : Program} {ops : Array Oper} {S : World → Prop} {Q : Exit → Act → World → Prop} {l n id : Nat} {a : Act} {w : World} (hm : P.follows .mixedOrders = true) (hlo : ¬ LetsOut Q) (hnd : noDefer ops = true) (hS : S w.drew)
  (h : S w.drew → wpAnyH P .any ops Q S ops.size (Array.replicate ops.size false) a w.drew) : (Code.region id ops true).wpIn (Fence.wide.inRound l) n P Q a w :=
 wpIn_region_any hm (wpAny_inRound hlo hnd _ _ _ _ (wpAny_of_held _ _ _ _ (h hS)))
end Go.Proofs.YthhbbnfnejjpiaaGreatDoor.GW
namespace Go.Proofs.YthhbbnfnejjpiaaGreatDoor.NL
open Go
theorem mod_div_pow (t s : Nat) (hs : s ≤ 32) : t * 2 ^ s % 18446744073709551616 / 4294967296 = t / 2 ^ (32 - s) % 4294967296 := by
  rw [show (18446744073709551616 : Nat) = 4294967296 * 4294967296 by decide, Nat.mod_mul_right_div_self]
  congr 1
  rw [show (4294967296 : Nat) = 2 ^ s * 2 ^ (32 - s) by rw [← Nat.pow_add, show s + (32 - s) = 32 by omega], ← Nat.div_div_eq_div_mul, Nat.mul_div_cancel _ (Nat.two_pow_pos s)]
theorem up_limb0 {l : List Nat} (h : Ok l) (k s : Nat) (hs : s < 32) : ((0 :: l).getD k 0 + 4294967296 * (0 :: l).getD (k + 1) 0) * 2 ^ s % 18446744073709551616 / 4294967296 = val l * 2 ^ s / 4294967296 ^ k % 4294967296 := by
  rw [mod_div_pow _ _ (by omega)]
  have h' : Ok (0 :: l) := Ok.cons (by decide) h
  have hv : val (0 :: l) = 4294967296 * val l := by simp [val]
  by_cases h0 : s = 0
  · subst h0
    rw [Nat.pow_zero, Nat.mul_one]
    have hx := h'.getD k
    have hy := h'.getD (k + 1)
    have e := getD_val l h k
    have e2 : (0 :: l).getD (k + 1) 0 = l.getD k 0 := by simp
    rw [← e, ← e2]
    generalize (0 :: l).getD k 0 = x at *
    generalize (0 :: l).getD (k + 1) 0 = y at *
    omega
  · rw [down_limb h' k (32 - s) (by omega), hv]
    congr 2
    rw [show (4294967296 : Nat) = 2 ^ (32 - s) * 2 ^ s by rw [← Nat.pow_add, show 32 - s + s = 32 by omega], Nat.mul_assoc, Nat.mul_div_cancel_left _ (Nat.two_pow_pos _), Nat.mul_comm]
theorem up_end {pre l : List Nat} {n s : Nat} (hl : Ok l) (hn : l.length < n) (hs : s < 32) (h : val pre = val l * 2 ^ s % 4294967296 ^ n) : val pre = val l * 2 ^ s := by
  rw [h]
  apply Nat.mod_eq_of_lt
  have h1 := val_lt hl
  have h2 : 4294967296 ^ (l.length + 1) ≤ 4294967296 ^ n := Nat.pow_le_pow_right (by decide) hn
  rw [Nat.pow_succ] at h2
  have h3 : val l * 2 ^ s < 4294967296 ^ l.length * 4294967296 := by
    have a : 2 ^ s ≤ 4294967296 := by
      have := Nat.pow_le_pow_right (n := 2) (by decide) (show s ≤ 32 by omega)
      simpa using this
    calc val l * 2 ^ s ≤ val l * 4294967296 := Nat.mul_le_mul_left _ a
      _ < 4294967296 ^ l.length * 4294967296 := Nat.mul_lt_mul_of_pos_right h1 (by decide)
  omega
end Go.Proofs.YthhbbnfnejjpiaaGreatDoor.NL
namespace Go.Proofs.YthhbbnfnejjpiaaGreatDoor.GW
open Go
open Go.RowKit NL
theorem zeroCells_one (z : Value) (n : Nat) : (Builtin.zeroCells #[z] n).toList = List.replicate n z := by
 apply List.ext_getElem?
 intro j
 unfold Builtin.zeroCells
 simp only [List.size_toArray, List.length_cons, List.length_nil, Nat.zero_add, Nat.mul_one, Nat.mod_one]
 rw [Array.getElem?_toList, List.getElem?_replicate]
 by_cases h : j < n
 ·simp [h]
 ·simp [h]
section
variable {w0 : World} {X : List Nat} {M : List Blk} {I : List Frag}
theorem wpList_clear_g {P : Program} {ops : Array Oper} {rest : List Oper} {o : Oper} {a : Act} {Q : Exit → Act → World → Prop} (hgd : o.guard = none) (s : Operand) (sT : TypeId)
  (ho : o.op = .call { callee := .builtin .clear, args := #[s], argTypes := #[sT] }) (elem : TypeId) (hu : P.underlying sT = some (.slice elem)) (z zc : Value) (hz : ∀ w, (zeroValue elem).run P w = .ok z w) (hz1 : z.cells = #[zc]) (h1 : zc.oneCell' = true)
  (b off n cap : Nat) (hs : a.eval s = .slice (some ⟨b, off, none⟩) n cap) (hn : 0 < n)
  (g : G w0 X M I) (i : Nat) {T : TypeId} {cur : List Value} (hM : M[i]? = some (b, T, cur)) (hfit : off + n ≤ cur.length)
  (h : ∀ g' : G w0 X (M.set i (b, T, splice cur off (List.replicate n zc))) I, wpList P ops Q rest (a.put o.dst (.tuple #[])) g'.w) :
  wpList P ops Q (o :: rest) a g.w := by
 have hg := g.own _ (List.mem_of_getElem? hM)
 refine wpList_plain hgd fun K hK => ?_
 obtain ⟨m, rfl⟩ : ∃ m, n = m + 1 := ⟨n - 1, by omega⟩
 have hst := run_storeCells_at P b off T (List.replicate (m + 1) zc) 0 cur.toArray g.w hg (by simpa using hfit) (fun v hv => by rw [List.eq_of_mem_replicate hv]; exact h1)
 rw [Nat.add_zero, List.length_replicate] at hst
 have hrun : (Builtin.clear_ #[sT] o.type #[.slice (some ⟨b, off, none⟩) (m + 1) cap]).run P g.w = .ok (.tuple #[]) (g.w.setRow b (splice cur off (List.replicate (m + 1) zc)).toArray) := by
  simp only [Builtin.clear_, Sem.run_bind, run_underlying hu, Result.andThen_ok, hz, hz1, zeroCells_one, hst, Sem.run_pure]
  simp [splice, run_underlying hu, hz, hz1, zeroCells_one, hst, Result.andThen]
 unfold Oper.wp
 simp [execOp, ho, resolve, invoke, builtin, hs, hrun, Result.andThen]
 refine hK _ _ ?_
 obtain ⟨g', e⟩ := g.setRow_ex i hM (splice cur off (List.replicate (m + 1) zc))
 have := h g'
 rw [← e] at this
 exact this
end
end Go.Proofs.YthhbbnfnejjpiaaGreatDoor.GW
namespace Go.Proofs.YthhbbnfnejjpiaaGreatDoor.NL
open Go
/-- k limbs from j on become v and zeros -/
def layAt (r : List Nat) (j k : Nat) (v : List Nat) : List Nat := r.take j ++ ((v ++ List.replicate (k - v.length) 0) ++ r.drop (j + k))
theorem layAt_len {r v : List Nat} {j k : Nat} (h : j + k ≤ r.length) (hv : v.length ≤ k) : (layAt r j k v).length = r.length := by
 simp only [layAt, List.length_append, List.length_take, List.length_replicate, List.length_drop]; omega
theorem layAt_ok {r v : List Nat} {j k : Nat} (hr : Ok r) (hv : Ok v) : Ok (layAt r j k v) :=
 (hr.take j).append ((hv.append (Ok.zeros _)).append (hr.drop _))
theorem layAt_off {r v : List Nat} {j k : Nat} (h : j + k ≤ r.length) (hv : v.length ≤ k) : ∀ i, (i < j ∨ j + k ≤ i) → (layAt r j k v).getD i 0 = r.getD i 0 := by
 intro i hi
 have h1 : (r.take j).length = j := by rw [List.length_take]; omega
 have h2 : (v ++ List.replicate (k - v.length) 0).length = k := by rw [List.length_append, List.length_replicate]; omega
 unfold layAt
 rw [List.getD_eq_getElem?_getD, List.getD_eq_getElem?_getD]
 rcases hi with hi | hi
 ·rw [List.getElem?_append_left (by omega), List.getElem?_take_of_lt hi]
 ·rw [List.getElem?_append_right (by omega), List.getElem?_append_right (by omega), List.getElem?_drop, h1, h2]
  congr 2
  omega
theorem layAt_seg {r v : List Nat} {j k : Nat} (h : j + k ≤ r.length) (hv : v.length ≤ k) : val (((layAt r j k v).drop j).take k) = val v := by
 have h1 : (r.take j).length = j := by rw [List.length_take]; omega
 have h2 : (v ++ List.replicate (k - v.length) 0).length = k := by rw [List.length_append, List.length_replicate]; omega
 unfold layAt
 rw [List.drop_append_of_le_length (by omega), List.drop_of_length_le (by omega), List.nil_append, List.take_append_of_le_length (by omega), List.take_of_length_le (by omega), val_pad]
end Go.Proofs.YthhbbnfnejjpiaaGreatDoor.NL
namespace Go.Proofs.YthhbbnfnejjpiaaGreatDoor.GW
open Go
open Go.RowKit NL
theorem layAt_cells {r v : List Nat} {j k : Nat} (h : j + k ≤ r.length) (hv : v.length ≤ k) : splice (splice (u32s r) j (List.replicate k (.int .u32 0))) j (u32s v) = u32s (layAt r j k v) := by
 rw [← u32s_zeros, splice_u32s, splice_u32s]
 congr 1
 have h1 : (r.take j).length = j := by rw [List.length_take]; omega
 rw [List.length_replicate]
 unfold layAt
 rw [List.take_append_of_le_length (by omega), List.take_take, Nat.min_self]
 congr 1
 rw [List.drop_append, List.drop_of_length_le (by omega), List.nil_append, h1, show j + v.length - j = v.length by omega, List.drop_append_of_le_length (by rw [List.length_replicate]; exact hv), List.drop_replicate, ← List.append_assoc]
end Go.Proofs.YthhbbnfnejjpiaaGreatDoor.GW
namespace Go.Proofs.YthhbbnfnejjpiaaGreatDoor.NL
open Go
/-- how often 2 is in a number that is not 0 -/
def tz (v : Nat) : Nat := if h : v = 0 then 0 else if v % 2 = 1 then 0 else tz (v / 2) + 1
termination_by v
decreasing_by exact Nat.div_lt_self (Nat.pos_of_ne_zero h) (by decide)
/-- a number without its twos -/
def od (v : Nat) : Nat := v / 2 ^ tz v
theorem tz_spec (v : Nat) (h : v ≠ 0) : ∃ m, v = 2 ^ tz v * (2 * m + 1) := by
 induction v using Nat.strongRecOn with
 | ind v ih =>
  rw [tz, dif_neg h]
  by_cases h2 : v % 2 = 1
  ·rw [if_pos h2]; exact ⟨v / 2, by omega⟩
  ·rw [if_neg h2]
   obtain ⟨m, hm⟩ := ih (v / 2) (Nat.div_lt_self (Nat.pos_of_ne_zero h) (by decide)) (by omega)
   refine ⟨m, ?_⟩
   rw [Nat.pow_succ, Nat.mul_assoc, Nat.mul_comm 2, ← Nat.mul_assoc, ← hm]
   omega
theorem tz_uniq {v t m : Nat} (h : v = 2 ^ t * (2 * m + 1)) : tz v = t := by
 induction t generalizing v with
 | zero =>
  rw [tz, dif_neg (by omega), if_pos (by omega)]
 | succ t ih =>
  have h1 : v = 2 * (2 ^ t * (2 * m + 1)) := by rw [h, Nat.pow_succ]; rw [Nat.mul_comm (2 ^ t) 2, Nat.mul_assoc]
  have h0 : 0 < 2 ^ t * (2 * m + 1) := Nat.mul_pos (Nat.two_pow_pos t) (by omega)
  rw [tz, dif_neg (by omega), if_neg (by omega), ih (by omega : v / 2 = 2 ^ t * (2 * m + 1))]
theorem od_spec (v : Nat) (h : v ≠ 0) : v = 2 ^ tz v * od v ∧ od v % 2 = 1 := by
 obtain ⟨m, hm⟩ := tz_spec v h
 have : od v = 2 * m + 1 := by
  unfold od
  rw [Nat.div_eq_of_eq_mul_right (Nat.two_pow_pos _) hm]
 rw [this]
 exact ⟨hm, by omega⟩
theorem od_pos {v : Nat} (h : v ≠ 0) : od v ≠ 0 := by have := (od_spec v h).2; omega
theorem od_le (v : Nat) : od v ≤ v := Nat.div_le_self _ _
/-- the place of the lowest limb that is not 0 -/
theorem tz_limb {l : List Nat} (ho : Ok l) {i : Nat} (hz : ∀ j, j < i → l.getD j 0 = 0) (hi : l.getD i 0 ≠ 0) : tz (val l) = 32 * i + Lib.ctz 32 (l.getD i 0) ∧ Lib.ctz 32 (l.getD i 0) < 32 := by
 have hx := ho.getD i
 obtain ⟨m, hm, hk⟩ := Lib.ctzFrom_spec 32 (l.getD i 0) (by omega) (by omega)
 have hc : Lib.ctz 32 (l.getD i 0) = Lib.ctzFrom 32 (l.getD i 0) := by unfold Lib.ctz; rw [if_neg hi]
 rw [hc]
 refine ⟨?_, hk⟩
 have hlt : i < l.length := by
  rcases Nat.lt_or_ge i l.length with h | h
  ·exact h
  ·rw [List.getD_eq_getElem?_getD, List.getElem?_eq_none h] at hi; exact absurd rfl hi
 have h0 : val (l.take i) = 0 := by
  have : ∀ k, k ≤ i → val (l.take k) = 0 := by
   intro k
   induction k with
   | zero => intro _; rw [List.take_zero]; rfl
   | succ k ih => intro hk; rw [val_take_getD, ih (by omega), hz k (by omega)]; simp
  exact this i (Nat.le_refl _)
 have hs := val_split l i (by omega)
 rw [h0, Nat.zero_add, val_drop_getD] at hs
 generalize Lib.ctzFrom 32 (l.getD i 0) = k at *
 generalize l.getD i 0 = x at *
 generalize val (l.drop (i + 1)) = z at *
 have hp : (4294967296 : Nat) = 2 ^ k * (2 * 2 ^ (31 - k)) := by
  rw [← Nat.mul_assoc, Nat.mul_comm _ 2, ← Nat.pow_succ', ← Nat.pow_add, show k + 1 + (31 - k) = 32 by omega]
 apply tz_uniq (m := m + 2 ^ (31 - k) * z)
 rw [hs, pow32, Nat.pow_add, Nat.mul_assoc]
 congr 1
 have e1 : (4294967296 : Nat) * z = 2 ^ k * (2 * (2 ^ (31 - k) * z)) := by
  conv => lhs; rw [hp]
  rw [Nat.mul_assoc, Nat.mul_assoc]
 rw [e1]
 conv => lhs; rw [hm]
 rw [← Nat.mul_add]
 congr 1
 omega
end Go.Proofs.YthhbbnfnejjpiaaGreatDoor.NL
namespace Go.Proofs.YthhbbnfnejjpiaaGreatDoor.GW
open Go
open Go.RowKit NL
/-- from o on, the cells read as the limbs l -/
structure Seg (cs : List Value) (o : Nat) (l : List Nat) : Prop where
 len : o + l.length ≤ cs.length
 get : ∀ j, j < l.length → cs[o + j]? = some (.int .u32 ((l.getD j 0 : Nat) : Int))
theorem Seg.set {cs : List Value} {o : Nat} {l : List Nat} (h : Seg cs o l) {j : Nat} (hj : j < l.length) (x : Nat) : Seg (cs.set (o + j) (.int .u32 (x : Int))) o (l.set j x) := by
 refine ⟨by rw [List.length_set, List.length_set]; exact h.len, fun i hi => ?_⟩
 rw [List.length_set] at hi
 have hl := h.len
 rw [List.getElem?_set, List.getD_eq_getElem?_getD, List.getElem?_set]
 by_cases e : j = i
 ·subst e
  rw [if_pos rfl, if_pos (by omega), if_pos rfl, if_pos hj]; rfl
 ·rw [if_neg (by omega), if_neg e, ← List.getD_eq_getElem?_getD]
  exact h.get i hi
theorem Seg.drop {cs : List Value} {o : Nat} {l : List Nat} (h : Seg cs o l) (q : Nat) (hq : q ≤ l.length) : Seg cs (o + q) (l.drop q) := by
 have hl := h.len
 refine ⟨by rw [List.length_drop]; omega, fun j hj => ?_⟩
 rw [List.length_drop] at hj
 rw [Nat.add_assoc, h.get (q + j) (by omega), List.getD_eq_getElem?_getD, List.getD_eq_getElem?_getD, List.getElem?_drop]
theorem Seg.take {cs : List Value} {o : Nat} {l : List Nat} (h : Seg cs o l) (k : Nat) : Seg cs o (l.take k) := by
 have hl := h.len
 refine ⟨by rw [List.length_take]; omega, fun j hj => ?_⟩
 rw [List.length_take] at hj
 rw [getD_take (by omega)]
 exact h.get j (by omega)
theorem Seg.sl {cs : List Value} {o c b : Nat} {l : List Nat} {T : TypeId} {fr : Nat × Nat} (h : Seg cs o l) (hc : l.length ≤ c) (hc2 : c ≤ 9223372036854775807) (hl : l.length ≤ 140737488355328) (hk : Ok l) : (blkF b (.cells cs.toArray T fr)).Sl (some ⟨b, o, none⟩) c l := by
 refine ⟨hc, hc2, hl, ?_, hk⟩
 intro _
 refine ⟨b, o, rfl, cs.toArray, T, fr, by simp [blkF], fun j hj => ?_⟩
 rw [List.getElem?_toArray]
 exact h.get j hj
theorem Seg.trim {cs : List Value} {o : Nat} {l : List Nat} (h : Seg cs o l) (hk : Ok l) : Seg cs o (limbs (val l)) := by
 rw [← limbs_prefix hk]; exact h.take _
end Go.Proofs.YthhbbnfnejjpiaaGreatDoor.GW
namespace Go.Proofs.YthhbbnfnejjpiaaGreatDoor.NL
open Go
theorem od_split {l : List Nat} (ho : Ok l) : od (val l) = val (l.drop (tz (val l) / 32)) / 2 ^ (tz (val l) % 32) := by
 unfold od
 rw [div_pow_split, val_div l ho]
theorem tz_len {l : List Nat} (ho : Ok l) (h0 : val l ≠ 0) : tz (val l) / 32 < l.length := by
 have h1 := val_lt ho
 rw [pow32] at h1
 have h2 := (od_spec (val l) h0).1
 have h3 : 2 ^ tz (val l) ≤ val l := by
  conv => rhs; rw [h2]
  exact Nat.le_mul_of_pos_right _ (Nat.pos_of_ne_zero (od_pos h0))
 have h4 : tz (val l) < 32 * l.length := (Nat.pow_lt_pow_iff_right (by decide)).1 (Nat.lt_of_le_of_lt h3 h1)
 omega
theorem pre_set {pre l : List Nat} {k x : Nat} (hp : pre.length = k) (hk : k < l.length) : (pre ++ l.drop k).set k x = (pre ++ [x]) ++ l.drop (k + 1) := by
 subst hp
 rw [List.set_append_right _ _ (Nat.le_refl _), Nat.sub_self, List.drop_eq_getElem_cons hk, List.set_cons_zero, List.append_assoc]
 rfl
theorem pre_get {pre l : List Nat} {k i : Nat} (hp : pre.length = k) (hi : k ≤ i) : (pre ++ l.drop k).getD i 0 = l.getD i 0 := by
 subst hp
 rw [List.getD_eq_getElem?_getD, List.getElem?_append_right hi, List.getElem?_drop, ← List.getD_eq_getElem?_getD]
 congr 1
 omega
end Go.Proofs.YthhbbnfnejjpiaaGreatDoor.NL
namespace Go.Proofs.YthhbbnfnejjpiaaGreatDoor.NL
open Go
theorem odd_cop2 {y : Nat} (h : y % 2 = 1) (t : Nat) : Nat.Coprime (2 ^ t) y := by
 have : Nat.Coprime 2 y := by
  rw [Nat.coprime_iff_gcd_eq_one, Nat.gcd_rec, h]
  decide
 exact Nat.Coprime.pow_left t this
theorem gcd_od_left {x y : Nat} (hx : x ≠ 0) (hy : y % 2 = 1) : Nat.gcd (od x) y = Nat.gcd x y := by
 conv => rhs; rw [(od_spec x hx).1]
 exact (Nat.Coprime.gcd_mul_left_cancel (od x) (odd_cop2 hy _)).symm
theorem gcd_sub_odd {x y : Nat} (h : y < x) (hy : y % 2 = 1) : Nat.gcd (od (x - y)) y = Nat.gcd x y := by
 rw [gcd_od_left (by omega) hy]
 exact Nat.gcd_sub_self_left (Nat.le_of_lt h)
/-- the twos and the odd part of a greatest common divisor -/
theorem gcd_parts {a b : Nat} (ha : a ≠ 0) (hb : b ≠ 0) : Nat.gcd a b = Nat.gcd (od a) (od b) * 2 ^ min (tz a) (tz b) := by
 obtain ⟨h1, o1⟩ := od_spec a ha
 obtain ⟨h2, o2⟩ := od_spec b hb
 have key : ∀ s t x y : Nat, s ≤ t → x % 2 = 1 → y % 2 = 1 → Nat.gcd (2 ^ s * x) (2 ^ t * y) = Nat.gcd x y * 2 ^ s := by
  intro s t x y hst hx hy
  obtain ⟨d, rfl⟩ : ∃ d, t = s + d := ⟨t - s, by omega⟩
  rw [Nat.pow_add, Nat.mul_assoc, Nat.gcd_mul_left, Nat.mul_comm]
  congr 1
  exact Nat.Coprime.gcd_mul_left_cancel_right y (odd_cop2 hx d)
 rcases Nat.le_total (tz a) (tz b) with h | h
 ·rw [Nat.min_eq_left h]
  conv => lhs; rw [h1, h2]
  exact key _ _ _ _ h o1 o2
 ·rw [Nat.min_eq_right h]
  conv => lhs; rw [h1, h2]
  rw [Nat.gcd_comm, key _ _ _ _ h o2 o1, Nat.gcd_comm]
/-- limbs of a number shifted by whole limbs and bits -/
theorem limbs_shift {x : Nat} (h : x ≠ 0) (q : Nat) : List.replicate q 0 ++ limbs x = limbs (x * 4294967296 ^ q) := by
 induction q with
 | zero => simp
 | succ q ih =>
  have h0 : x * 4294967296 ^ (q + 1) ≠ 0 := Nat.mul_ne_zero h (Nat.ne_of_gt (Nat.pow_pos (by decide)))
  rw [List.replicate_succ, List.cons_append, ih, limbs_pos h0]
  have e : x * 4294967296 ^ (q + 1) = 4294967296 * (x * 4294967296 ^ q) := by rw [Nat.pow_succ]; rw [← Nat.mul_assoc, Nat.mul_comm _ 4294967296]
  rw [e, Nat.mul_mod_right, Nat.mul_div_cancel_left _ (by decide)]
theorem shift_parts (x k : Nat) : x * 2 ^ (k % 32) * 4294967296 ^ (k / 32) = x * 2 ^ k := by
 rw [pow32, Nat.mul_assoc, ← Nat.pow_add]
 congr 2
 omega
end Go.Proofs.YthhbbnfnejjpiaaGreatDoor.NL
namespace Go.Proofs.YthhbbnfnejjpiaaGreatDoor.GW
open Go
open Go.RowKit NL
theorem G.perm {w0 : World} {X : List Nat} {M M' : List Blk} {I : List Frag} (g : G w0 X M I) (h : M.Perm M') : ∃ g' : G w0 X M' I, g.w = g'.w :=
 ⟨⟨g.w, g.chg, fun m hm => g.own m (h.mem_iff.2 hm), fun m hm => g.may m (h.mem_iff.2 hm), (h.map _).nodup_iff.1 g.dist, g.sub, fun f hf k o hk => ⟨(g.keep f hf k o hk).1, fun hm => (g.keep f hf k o hk).2 ((h.map _).mem_iff.2 hm)⟩⟩, rfl⟩
theorem Row.get {T : TypeId} {n cap : Nat} {xs : List Nat} {cs : List Value} (h : Row T 1 n (u32s xs) cap cs) (hn : xs.length = n) {j : Nat} (hj : j < n) : cs[j]? = some (.int .u32 ((xs.getD j 0 : Nat) : Int)) := by
 have := u32s_getD (l := xs) (j := j) (by omega)
 rw [← h.take, List.getElem?_take_of_lt (by omega)] at this
 exact this
theorem Row.set {T : TypeId} {n cap : Nat} {xs : List Nat} {cs : List Value} (h : Row T 1 n (u32s xs) cap cs) {j x : Nat} (hj : j < n) : Row T 1 n (u32s (xs.set j x)) cap (cs.set j (.int .u32 (x : Int))) := by
 refine ⟨h.le, h.max, by rw [List.length_set]; exact h.len, ?_, ?_⟩
 ·rw [List.take_set, h.take, u32s_set]
 ·rw [u32s_len, List.length_set, ← u32s_len]; exact h.xl
theorem ten_set {pre xs : List Nat} {j x : Nat} (hp : pre.length = j) (hj : j < xs.length) : (pre ++ xs.drop j).set j x = (pre ++ [x]) ++ xs.drop (j + 1) := by
 subst hp
 rw [List.set_append_right _ _ (Nat.le_refl _), Nat.sub_self, List.drop_eq_getElem_cons hj, List.set_cons_zero, List.append_assoc]
 rfl
theorem ten_get {pre xs : List Nat} {j : Nat} (hp : pre.length = j) : (pre ++ xs.drop j).getD j 0 = xs.getD j 0 := by
 subst hp
 rw [List.getD_eq_getElem?_getD, List.getElem?_append_right (Nat.le_refl _), Nat.sub_self, List.getElem?_drop, Nat.add_zero, ← List.getD_eq_getElem?_getD]
end Go.Proofs.YthhbbnfnejjpiaaGreatDoor.GW
namespace Go.Proofs.YthhbbnfnejjpiaaGreatDoor.GW
open Go
open Go.RowKit
section
variable {w0 : World} {X : List Nat} {R : List Blk} {I : List Frag}
theorem wp_append_g {P : Program} {o : Oper} {a : Act} {K : Act → World → Prop} {E : Exit → Act → World → Prop} (s x : Operand) (t : TypeId)
  (ho : o.op = .call { callee := .builtin .append, args := #[s, x], argTypes := #[t, t] })
  (e : TypeId) (i : TypeInfo) (z : Value) (size bytes : Nat) (ht : P.underlying t = some (.slice e)) (hi : P.info? e = some i) (hz : i.zero = some z)
  (hsize : i.size = size) (hby : i.bytes = bytes) (hzs : z.cells.size = size) (hsz : 0 < size)
  (g : G w0 X R I) (v : Value) (n : Nat) (xs : List Value) (hs : a.eval s = v) (hown : g.w.ownsRow w0.heap.size e size v n xs)
  (hne : ∀ m ∈ R, some m.1 ≠ v.ownBlock) (hfr : ∀ f ∈ I, ∀ k o, f k = some o → some k ≠ v.ownBlock)
  (ad : Addr) (m c : Nat) (news : List Value) (hx : a.eval x = .slice (some ad) m c) (hl : news.length = m * size) (hnews : ∀ j u, news[j]? = some u → g.w.cell? (ad.add j) = some u) (h1 : ∀ u ∈ news, u.oneCell' = true)
  (hm : 0 < m) (h63 : n + m ≤ maxLen) (hbytes : (n + m) * bytes ≤ 140737488355328)
  (h : ∀ b cap cs, ∀ g' : G w0 X ((b, e, cs) :: R) I, w0.heap.size ≤ b → Row e size (n + m) (xs ++ news) cap cs → K (a.put o.dst (.slice (some ⟨b, 0, none⟩) (n + m) cap)) g'.w) :
  o.wp P a g.w K E := by
 obtain ⟨v', w', hr, ho', hg, hv, hb⟩ := run_append_own_at (P := P) g.w w0.heap.size t o.type e i z size bytes ht hi hz hsize hby hzs hsz v n xs hown ad m c news hl hnews h1 h63 hbytes g.chg.size
 unfold Oper.wp execOp
 simp only [ho, resolve, invoke, builtin, Sem.run_bind, Sem.run_pure, Result.andThen_ok, List.map_toArray, List.map_cons, List.map_nil, hs, hx, hr]
 rcases ho'.2 with ⟨e1, e2⟩ | ⟨b, cap, cur, rfl, hb0, hh, hle, hmx, hcl, hct⟩
 ·exfalso; omega
 ·have hrow : ∀ k, v.ownBlock = some k → w0.heap.size ≤ k := fun k hk => (hown.lt k hk).1
  have hb' : v.ownBlock = some b ∨ b = g.w.heap.size := by
   rcases hb with hb | hb
   ·exact .inl hb.symm
   ·right; exact Option.some.inj hb
  obtain ⟨g', rfl⟩ := g.grow (cs := cur.toList) hg hrow hne hfr hb' (by rw [Array.toArray_toList]; exact hh)
  exact h b cap cur.toList g' hb0 ⟨hle, hmx, by rw [Array.length_toList]; exact hcl, hct, ho'.1⟩
end
end Go.Proofs.YthhbbnfnejjpiaaGreatDoor.GW
namespace Go.Proofs.YthhbbnfnejjpiaaGreatDoor.GW
open Go
open Go.RowKit NL
section
variable {w0 : World} {R : List Blk} {I : List Frag}
theorem step_append_row {P : Program} {ops : Array Oper} {o : Oper} {a : Act} {K : Act → World → Prop} {Q : Exit → Act → World → Prop} {E : Prop} (hgd : o.guard = none) (s x : Operand) (t : TypeId)
  (ho : o.op = .call { callee := .builtin .append, args := #[s, x], argTypes := #[t, t] })
  (e : TypeId) (i : TypeInfo) (z : Value) (size bytes : Nat) (ht : P.underlying t = some (.slice e)) (hi : P.info? e = some i) (hz : i.zero = some z)
  (hsize : i.size = size) (hby : i.bytes = bytes) (hzs : z.cells.size = size) (hsz : 0 < size)
  {b n cap : Nat} {cs xs : List Value} (g : G w0 [] ((b, e, cs) :: R) I) (hr : Row e size n xs cap cs) (hs : a.eval s = .slice (some ⟨b, 0, none⟩) n cap)
  (m c : Nat) (news : List Value) (ad : Option Addr) (hx : a.eval x = .slice ad m c) (hl : news.length = m * size) (hnews : ∃ ad', ad = some ad' ∧ ∀ j u, news[j]? = some u → g.w.cell? (ad'.add j) = some u) (h1 : ∀ u ∈ news, u.oneCell' = true)
  (hm : 0 < m) (h63 : n + m ≤ maxLen) (hbytes : (n + m) * bytes ≤ 140737488355328)
  (h : ∀ b cap cs, ∀ g' : G w0 [] ((b, e, cs) :: R) I, w0.heap.size ≤ b → Row e size (n + m) (xs ++ news) cap cs → K (a.put o.dst (.slice (some ⟨b, 0, none⟩) (n + m) cap)) g'.w) :
  if Region.wanted o (yielded ops a.tmps) = true then Oper.wp P o a g.w K Q else E := by
 have hw : Region.wanted o (yielded ops a.tmps) = true := by simp [Region.wanted, hgd]
 rw [if_pos hw]
 obtain ⟨ad', rfl, hnews⟩ := hnews
 have hb : w0.heap.size ≤ b := g.fresh (List.mem_cons_self ..)
 have hown := g.rowAt hr (List.mem_cons_self ..) hb
 have hap := g.apart
 obtain ⟨g1, e1⟩ := g.less (M' := R) (List.sublist_cons_self _ _)
 rw [e1] at hown hnews ⊢
 exact wp_append_g s x t ho e i z size bytes ht hi hz hsize hby hzs hsz g1 _ n xs hs hown hap.1 hap.2 ad' m c news hx hl hnews h1 hm h63 hbytes h
end
theorem row_zeros (T : TypeId) (n : Nat) (h : n ≤ 9223372036854775807) : Row T 1 n (u32s (List.replicate n 0)) n (u32s (List.replicate n 0)) :=
 ⟨Nat.le_refl _, by show n ≤ 9223372036854775807; omega, by rw [u32s_len, List.length_replicate, Nat.mul_one], by rw [Nat.mul_one, List.take_of_length_le (by rw [u32s_len, List.length_replicate]; exact Nat.le_refl _)], by rw [u32s_len, List.length_replicate, Nat.mul_one]⟩
end Go.Proofs.YthhbbnfnejjpiaaGreatDoor.GW
namespace Go.Proofs.YthhbbnfnejjpiaaGreatDoor.GW
open Go
open Go Go.RowKit
/-- the second type of append matters by its underlying type alone -/
theorem append_tx {P : Program} (w : World) {t tx ty e e2 : TypeId} (ht : P.underlying t = some (.slice e)) (htx : P.underlying tx = some (.slice e2)) (s x : Value) :
  (Builtin.append_ #[t, tx] ty #[s, x]).run P w = (Builtin.append_ #[t, t] ty #[s, x]).run P w := by
 unfold Builtin.append_
 simp only [List.getElem?_toArray, List.getElem?_cons_zero, List.getElem?_cons_succ, Sem.run_bind, run_underlying ht, run_underlying htx, Result.andThen_ok, Sem.run_pure]
 cases s <;> simp only [Sem.run_bind, run_underlying ht, run_underlying htx, Result.andThen_ok, Sem.run_pure]
section
variable {w0 : World} {X : List Nat} {R : List Blk} {I : List Frag}
theorem wpList_append_gx {P : Program} {ops : Array Oper} {rest : List Oper} {o : Oper} {a : Act} {Q : Exit → Act → World → Prop} (hgd : o.guard = none) (s x : Operand) (t tx : TypeId)
  (ho : o.op = .call { callee := .builtin .append, args := #[s, x], argTypes := #[t, tx] })
  (e : TypeId) (i : TypeInfo) (z : Value) (size bytes : Nat) (ht : P.underlying t = some (.slice e)) (htx : P.underlying tx = some (.slice e)) (hi : P.info? e = some i) (hz : i.zero = some z)
  (hsize : i.size = size) (hby : i.bytes = bytes) (hzs : z.cells.size = size) (hsz : 0 < size)
  (g : G w0 X R I) (v : Value) (n : Nat) (xs : List Value) (hs : a.eval s = v) (hown : g.w.ownsRow w0.heap.size e size v n xs)
  (hne : ∀ m ∈ R, some m.1 ≠ v.ownBlock) (hfr : ∀ f ∈ I, ∀ k o, f k = some o → some k ≠ v.ownBlock)
  (ad : Addr) (m c : Nat) (news : List Value) (hx : a.eval x = .slice (some ad) m c) (hl : news.length = m * size) (hnews : ∀ j u, news[j]? = some u → g.w.cell? (ad.add j) = some u) (h1 : ∀ u ∈ news, u.oneCell' = true)
  (hm : 0 < m) (h63 : n + m ≤ maxLen) (hbytes : (n + m) * bytes ≤ 140737488355328)
  (h : ∀ b cap cs, ∀ g' : G w0 X ((b, e, cs) :: R) I, w0.heap.size ≤ b → Row e size (n + m) (xs ++ news) cap cs → wpList P ops Q rest (a.put o.dst (.slice (some ⟨b, 0, none⟩) (n + m) cap)) g'.w) :
  wpList P ops Q (o :: rest) a g.w := by
 refine wpList_plain hgd fun K hK => ?_
 obtain ⟨v', w', hr, ho', hg, hv, hb⟩ := run_append_own_at (P := P) g.w w0.heap.size t o.type e i z size bytes ht hi hz hsize hby hzs hsz v n xs hown ad m c news hl hnews h1 h63 hbytes g.chg.size
 rw [← append_tx g.w ht htx] at hr
 unfold Oper.wp execOp
 simp only [ho, resolve, invoke, builtin, Sem.run_bind, Sem.run_pure, Result.andThen_ok, List.map_toArray, List.map_cons, List.map_nil, hs, hx, hr]
 refine hK _ _ ?_
 rcases ho'.2 with ⟨e1, e2⟩ | ⟨b, cap, cur, rfl, hb0, hh, hle, hmx, hcl, hct⟩
 ·exfalso; omega
 ·have hrow : ∀ k, v.ownBlock = some k → w0.heap.size ≤ k := fun k hk => (hown.lt k hk).1
  have hb' : v.ownBlock = some b ∨ b = g.w.heap.size := by
   rcases hb with hb | hb
   ·exact .inl hb.symm
   ·right; exact Option.some.inj hb
  obtain ⟨g', rfl⟩ := g.grow (cs := cur.toList) hg hrow hne hfr hb' (by rw [Array.toArray_toList]; exact hh)
  exact h b cap cur.toList g' hb0 ⟨hle, hmx, by rw [Array.length_toList]; exact hcl, hct, ho'.1⟩
/-- 'append' to a row at the head of the blocks, from any source -/
theorem wpList_append_rowx {P : Program} {ops : Array Oper} {rest : List Oper} {o : Oper} {a : Act} {Q : Exit → Act → World → Prop} (hgd : o.guard = none) (s x : Operand) (t tx : TypeId)
  (ho : o.op = .call { callee := .builtin .append, args := #[s, x], argTypes := #[t, tx] })
  (e : TypeId) (i : TypeInfo) (z : Value) (size bytes : Nat) (ht : P.underlying t = some (.slice e)) (htx : P.underlying tx = some (.slice e)) (hi : P.info? e = some i) (hz : i.zero = some z)
  (hsize : i.size = size) (hby : i.bytes = bytes) (hzs : z.cells.size = size) (hsz : 0 < size)
  {b n cap : Nat} {cs xs : List Value} (g : G w0 X ((b, e, cs) :: R) I) (hr : Row e size n xs cap cs) (hb : w0.heap.size ≤ b) (hs : a.eval s = .slice (some ⟨b, 0, none⟩) n cap)
  (m c : Nat) (news : List Value) (A : Option Addr) (hx : a.eval x = .slice A m c) (hl : news.length = m * size) (hsrc : ∃ ad, A = some ad ∧ ∀ j u, news[j]? = some u → g.w.cell? (ad.add j) = some u) (h1 : ∀ u ∈ news, u.oneCell' = true)
  (hm : 0 < m) (h63 : n + m ≤ maxLen) (hbytes : (n + m) * bytes ≤ 140737488355328)
  (h : ∀ b cap cs, ∀ g' : G w0 X ((b, e, cs) :: R) I, w0.heap.size ≤ b → Row e size (n + m) (xs ++ news) cap cs → wpList P ops Q rest (a.put o.dst (.slice (some ⟨b, 0, none⟩) (n + m) cap)) g'.w) :
  wpList P ops Q (o :: rest) a g.w := by
 obtain ⟨ad, rfl, hnews⟩ := hsrc
 have hown := g.rowAt hr (List.mem_cons_self ..) hb
 obtain ⟨ha, hf⟩ := g.apart
 obtain ⟨g1, e1⟩ := g.less (M' := R) (List.sublist_cons_self _ _)
 rw [e1] at hown hnews ⊢
 exact wpList_append_gx hgd s x t tx ho e i z size bytes ht htx hi hz hsize hby hzs hsz g1 _ n xs hs hown ha hf ad m c news hx hl hnews h1 hm h63 hbytes h
/-- an own block becomes a part that stays -/
theorem G.frz {w0 : World} {X : List Nat} {b : Nat} {T : TypeId} {cs : List Value} {M : List Blk} {I : List Frag} (g : G w0 X ((b, T, cs) :: M) I) (hb : w0.heap.size ≤ b) : ∃ g' : G w0 X M (blkF b (.cells cs.toArray T (0, 0)) :: I), g.w = g'.w := by
 obtain ⟨g2, h⟩ := g.less (M' := M) (List.sublist_cons_self _ _)
 have hd := g.dist
 rw [List.map_cons, List.nodup_cons] at hd
 refine ⟨g2.see (blkF b (.cells cs.toArray T (0, 0))) (by rw [← h]; exact blkF_sub g.blk0) (fun k o hk => ?_), h⟩
 rw [blkF_at hk]
 exact ⟨.inl hb, hd.1⟩
end
end Go.Proofs.YthhbbnfnejjpiaaGreatDoor.GW
namespace Go.Proofs.YthhbbnfnejjpiaaGreatDoor.NL
open Go
/-- k bits are still to be looked at: the rest R, the divisor shifted D, the quotient so far Q -/
structure Qb (a b k R Q : Nat) : Prop where
 eq : R + b * Q = a
 lt : R < b * 2 ^ k
 dvd : Q % 2 ^ k = 0
theorem Qb.start {a b n : Nat} (hb : b ≠ 0) (hn : nb a = nb b + n) : Qb a b (n + 1) a 0 := by
 refine ⟨by omega, ?_, Nat.zero_mod _⟩
 have h1 := nb_lt a
 have h2 := nb_ge hb
 have h3 := nb_pos hb
 rw [hn] at h1
 have e : 2 ^ (nb b + n) = 2 ^ (nb b - 1) * 2 ^ (n + 1) := by rw [← Nat.pow_add]; congr 1; omega
 rw [e] at h1
 exact Nat.lt_of_lt_of_le h1 (Nat.mul_le_mul_right _ h2)
theorem Qb.keep {a b k R Q : Nat} (h : Qb a b (k + 1) R Q) (hlt : R < b * 2 ^ k) : Qb a b k R Q := by
 refine ⟨h.eq, hlt, ?_⟩
 have := h.dvd
 rw [Nat.pow_succ] at this
 have e := Nat.mod_mul_right_mod Q (2 ^ k) 2
 rw [this, Nat.zero_mod] at e
 exact e.symm
theorem Qb.sub {a b k R Q : Nat} (h : Qb a b (k + 1) R Q) (hge : b * 2 ^ k ≤ R) : Qb a b k (R - b * 2 ^ k) (Q + 2 ^ k) := by
 have h1 := h.eq
 have h2 := h.lt
 rw [Nat.pow_succ, ← Nat.mul_assoc] at h2
 refine ⟨?_, by omega, ?_⟩
 ·rw [Nat.mul_add]; omega
 ·have := h.dvd
  rw [Nat.pow_succ] at this
  have e := Nat.mod_mul_right_mod Q (2 ^ k) 2
  rw [this, Nat.zero_mod] at e
  rw [Nat.add_mod_right]
  exact e.symm
theorem Qb.stop {a b R Q : Nat} (h : Qb a b 0 R Q) : Q = a / b ∧ R = a % b := by
 have h1 := h.eq
 have h2 := h.lt
 rw [Nat.pow_zero, Nat.mul_one] at h2
 have hb : 0 < b := by omega
 constructor
 ·rw [← h1, Nat.add_mul_div_left _ _ hb, Nat.div_eq_of_lt h2, Nat.zero_add]
 ·rw [← h1, Nat.add_mul_mod_self_left, Nat.mod_eq_of_lt h2]
/-- a bit that is set -/
theorem bit_set {q : List Nat} {k : Nat} (ho : Ok q) (hj : k / 32 < q.length) (hd : val q % 2 ^ (k + 1) = 0) :
  (q.getD (k / 32) 0) % 2 ^ (k % 32 + 1) = 0 ∧ q.getD (k / 32) 0 + 2 ^ (k % 32) < 4294967296 ∧ val (q.set (k / 32) (q.getD (k / 32) 0 + 2 ^ (k % 32))) = val q + 2 ^ k := by
 have hg := getD_val q ho (k / 32)
 obtain ⟨j, hj'⟩ : ∃ j, k / 32 = j := ⟨_, rfl⟩
 obtain ⟨r, hr⟩ : ∃ r, k % 32 = r := ⟨_, rfl⟩
 rw [hj'] at hg hj ⊢
 rw [hr]
 have hk : k = 32 * j + r := by omega
 have hr32 : r < 32 := by omega
 obtain ⟨t, ht⟩ : ∃ t, val q = 2 ^ (k + 1) * t := ⟨val q / 2 ^ (k + 1), by have := Nat.div_add_mod (val q) (2 ^ (k + 1)); omega⟩
 have hq : val q / 4294967296 ^ j = 2 ^ (r + 1) * t := by
  rw [ht, pow32, hk, show 32 * j + r + 1 = 32 * j + (r + 1) by omega, Nat.pow_add, Nat.mul_assoc, Nat.mul_div_cancel_left _ (Nat.two_pow_pos _)]
 have hB : (4294967296 : Nat) = 2 ^ (r + 1) * 2 ^ (31 - r) := by
  rw [← Nat.pow_add, show r + 1 + (31 - r) = 32 by omega]
 have h1 : q.getD j 0 = 2 ^ (r + 1) * (t % 2 ^ (31 - r)) := by
  rw [hg, hq]
  conv => lhs; rw [hB]
  rw [Nat.mul_mod_mul_left]
 have h2 := Nat.mod_lt t (Nat.two_pow_pos (31 - r))
 have h3 : 2 ^ (r + 1) * (t % 2 ^ (31 - r)) + 2 ^ (r + 1) ≤ 4294967296 := by
  have := Nat.mul_le_mul_left (2 ^ (r + 1)) (Nat.succ_le_of_lt h2)
  rw [Nat.mul_succ, ← hB] at this
  exact this
 have h4 : 2 ^ (r + 1) = 2 * 2 ^ r := by rw [Nat.pow_succ, Nat.mul_comm]
 have h5 := Nat.two_pow_pos r
 refine ⟨by rw [h1, Nat.mul_mod_right], by rw [h1]; omega, ?_⟩
 have hv := val_set' hj (q.getD j 0 + 2 ^ r)
 rw [Nat.mul_add] at hv
 have h6 : 4294967296 ^ j * 2 ^ r = 2 ^ k := by rw [pow32, ← Nat.pow_add, hk]
 rw [h6] at hv
 omega
end Go.Proofs.YthhbbnfnejjpiaaGreatDoor.NL
namespace Go.Proofs.YthhbbnfnejjpiaaGreatDoor.GW
open Go
open Go.RowKit NL
def Frag.le (F H : Frag) : Prop := ∀ k o, F k = some o → H k = some o
theorem Frag.le_refl (F : Frag) : F.le F := fun _ _ h => h
theorem Frag.le_trans {F G H : Frag} (h : F.le G) (k : G.le H) : F.le H := fun i o e => k i o (h i o e)
/-- a number as it lies in memory: sign, limbs of the numerator, of the denominator -/
abbrev Raw := Bool × List Nat × List Nat
def rawOf (x : Rat) : Raw := (rneg x, limbs (rn x), limbs x.den)
/-- p, q, r are the three cells of a number, its limbs in f -/
def Frag.Rt (f : Frag) (p q r : Value) (t : Raw) : Prop := p = .bool t.1 ∧ (∃ A c, q = .slice A t.2.1.length c ∧ f.Sl A c t.2.1) ∧ ∃ B k, r = .slice B t.2.2.length k ∧ f.Sl B k t.2.2
theorem Frag.Rt.mono {f f' : Frag} {p q r : Value} {t : Raw} (h : f.Rt p q r t) (s : f.le f') : f'.Rt p q r t := by
 obtain ⟨h1, ⟨A, c, h2, h3⟩, B, k, h4, h5⟩ := h
 exact ⟨h1, ⟨A, c, h2, h3.mono s⟩, B, k, h4, h5.mono s⟩
theorem Frag.Rt.one {f : Frag} {p q r : Value} {t : Raw} (h : f.Rt p q r t) : p.oneCell' = true ∧ q.oneCell' = true ∧ r.oneCell' = true := by
 obtain ⟨rfl, ⟨A, c, rfl, _⟩, B, k, rfl, _⟩ := h
 exact ⟨rfl, rfl, rfl⟩
/-- a slice of n numbers -/
structure Frag.Rw (f : Frag) (A : Option Addr) (c n : Nat) (x : Nat → Raw) : Prop where
 cap : n ≤ c
 max : c ≤ 9223372036854775807
 len : n ≤ 140737488355328
 row : 0 < n → ∃ b o, A = some ⟨b, o, none⟩ ∧ ∃ cs T fr, f b = some (.cells cs T fr) ∧ ∀ j, j < n → ∃ p q r, cs[o + j * 3]? = some p ∧ cs[o + j * 3 + 1]? = some q ∧ cs[o + j * 3 + 2]? = some r ∧ f.Rt p q r (x j)
theorem Frag.Rw.mono {f f' : Frag} {A : Option Addr} {c n : Nat} {x : Nat → Raw} (h : f.Rw A c n x) (s : f.le f') : f'.Rw A c n x := by
 refine ⟨h.cap, h.max, h.len, fun hl => ?_⟩
 obtain ⟨b, o, e, cs, T, fr, hb, hc⟩ := h.row hl
 refine ⟨b, o, e, cs, T, fr, s _ _ hb, fun j hj => ?_⟩
 obtain ⟨p, q, r, h1, h2, h3, h4⟩ := hc j hj
 exact ⟨p, q, r, h1, h2, h3, h4.mono s⟩
theorem Frag.Rw.congr {f : Frag} {A : Option Addr} {c n : Nat} {x y : Nat → Raw} (h : f.Rw A c n x) (e : ∀ j, j < n → x j = y j) : f.Rw A c n y := by
 refine ⟨h.cap, h.max, h.len, fun hl => ?_⟩
 obtain ⟨b, o, e', cs, T, fr, hb, hc⟩ := h.row hl
 refine ⟨b, o, e', cs, T, fr, hb, fun j hj => ?_⟩
 obtain ⟨p, q, r, h1, h2, h3, h4⟩ := hc j hj
 exact ⟨p, q, r, h1, h2, h3, e j hj ▸ h4⟩
theorem Frag.Rw.nil (f : Frag) (A : Option Addr) (x : Nat → Raw) : f.Rw A 0 0 x := ⟨Nat.le_refl _, by decide, by decide, fun h => absurd h (by decide)⟩
/-- a slice of n rows, the i-th one with m i numbers -/
structure Frag.Mt (f : Frag) (A : Option Addr) (c n : Nat) (m : Nat → Nat) (x : Nat → Nat → Raw) : Prop where
 cap : n ≤ c
 max : c ≤ 9223372036854775807
 len : n ≤ 140737488355328
 rows : 0 < n → ∃ b o, A = some ⟨b, o, none⟩ ∧ ∃ cs T fr, f b = some (.cells cs T fr) ∧ ∀ i, i < n → ∃ B k, cs[o + i]? = some (.slice B (m i) k) ∧ f.Rw B k (m i) (x i)
theorem Frag.Mt.mono {f f' : Frag} {A : Option Addr} {c n : Nat} {m : Nat → Nat} {x : Nat → Nat → Raw} (h : f.Mt A c n m x) (s : f.le f') : f'.Mt A c n m x := by
 refine ⟨h.cap, h.max, h.len, fun hl => ?_⟩
 obtain ⟨b, o, e, cs, T, fr, hb, hc⟩ := h.rows hl
 refine ⟨b, o, e, cs, T, fr, s _ _ hb, fun i hi => ?_⟩
 obtain ⟨B, k, h1, h2⟩ := hc i hi
 exact ⟨B, k, h1, h2.mono s⟩
theorem Frag.Mt.congr {f : Frag} {A : Option Addr} {c n : Nat} {m m' : Nat → Nat} {x y : Nat → Nat → Raw} (h : f.Mt A c n m x) (em : ∀ i, i < n → m i = m' i) (e : ∀ i, i < n → ∀ j, j < m i → x i j = y i j) : f.Mt A c n m' y := by
 refine ⟨h.cap, h.max, h.len, fun hl => ?_⟩
 obtain ⟨b, o, e', cs, T, fr, hb, hc⟩ := h.rows hl
 refine ⟨b, o, e', cs, T, fr, hb, fun i hi => ?_⟩
 obtain ⟨B, k, h1, h2⟩ := hc i hi
 rw [em i hi] at h1 h2
 exact ⟨B, k, h1, h2.congr fun j hj => e i hi j (by rw [em i hi]; exact hj)⟩
@[reducible] def RtW (w : World) (p q r : Value) (t : Raw) : Prop := (heapOf w).Rt p q r t
@[reducible] def RwW (w : World) (A : Option Addr) (c n : Nat) (x : Nat → Raw) : Prop := (heapOf w).Rw A c n x
/-- two parts of one memory, as one part -/
def Frag.or (F H : Frag) : Frag := fun k => match F k with | some o => some o | none => H k
theorem Frag.le_orl (F H : Frag) : F.le (F.or H) := by intro k o h; unfold Frag.or; rw [h]
theorem Frag.le_orr {F H : Frag} {w : World} (hF : F.sub w) (hH : H.sub w) : H.le (F.or H) := by
 intro k o h
 unfold Frag.or
 cases e : F k with
 | none => exact h
 | some o' =>
  have h1 := hF k o' e
  have h2 := hH k o h
  rw [h1] at h2
  exact h2
theorem Frag.or_some {F H : Frag} {k : Nat} {o : Obj} (h : F.or H k = some o) : F k = some o ∨ H k = some o := by
 unfold Frag.or at h
 cases e : F k with
 | none => rw [e] at h; exact .inr h
 | some o' => rw [e] at h; exact .inl h
theorem Frag.or_sub {F H : Frag} {w : World} (hF : F.sub w) (hH : H.sub w) : (F.or H).sub w := by
 intro k o h
 rcases Frag.or_some h with h | h
 ·exact hF k o h
 ·exact hH k o h
theorem New.both {w w' : World} {F H : Frag} (h : New w w' F) (k : New w w' H) : New w w' (F.or H) :=
 ⟨h.below, Frag.or_sub h.sub k.sub, fun i o e => by rcases Frag.or_some e with e | e; exact h.new i o e; exact k.new i o e⟩
section
variable {w0 : World} {M : List Blk} {F0 F : Frag}
end
/-- A number and an error. -/
def RT (t : Raw) (x : Int) (w : World) (e : Ending) (w' : World) : Prop := ∃ p q r H, e = .returned (.tuple #[.agg #[p, q, r], .int .i64 x]) ∧ Frag.Rt H p q r t ∧ New w w' H
/-- A number. -/
def RT1 (t : Raw) (w : World) (e : Ending) (w' : World) : Prop := ∃ p q r H, e = .returned (.agg #[p, q, r]) ∧ Frag.Rt H p q r t ∧ New w w' H
end Go.Proofs.YthhbbnfnejjpiaaGreatDoor.GW
namespace Go.Proofs.YthhbbnfnejjpiaaGreatDoor.GW
open Go
open Go.RowKit NL
abbrev Tri := Value × Value × Value
def cells3 (l : List Tri) : List Value := l.flatMap fun t => [t.1, t.2.1, t.2.2]
theorem cells3_len (l : List Tri) : (cells3 l).length = l.length * 3 := by
 unfold cells3
 induction l with
 | nil => rfl
 | cons t l ih => rw [List.flatMap_cons, List.length_append, ih, List.length_cons]; simp; omega
theorem cells3_append (l m : List Tri) : cells3 (l ++ m) = cells3 l ++ cells3 m := List.flatMap_append ..
theorem cells3_get : ∀ (l : List Tri) (j : Nat) (t : Tri), l[j]? = some t → (cells3 l)[j * 3]? = some t.1 ∧ (cells3 l)[j * 3 + 1]? = some t.2.1 ∧ (cells3 l)[j * 3 + 2]? = some t.2.2
 | [], j, t, h => by simp at h
 | u :: l, 0, t, h => by
  have : u = t := by simpa using h
  subst this
  exact ⟨rfl, rfl, rfl⟩
 | u :: l, j + 1, t, h => by
  have ih := cells3_get l j t (by simpa using h)
  have e : ∀ d, (cells3 (u :: l))[(j + 1) * 3 + d]? = (cells3 l)[j * 3 + d]? := by
   intro d
   rw [show (j + 1) * 3 + d = (j * 3 + d) + 3 by omega]
   rfl
  exact ⟨(e 0).trans ih.1, (e 1).trans ih.2.1, (e 2).trans ih.2.2⟩
theorem cells3_set : ∀ (l : List Tri) (j : Nat) (t : Tri), j < l.length → cells3 (l.set j t) = (((cells3 l).set (j * 3) t.1).set (j * 3 + 1) t.2.1).set (j * 3 + 2) t.2.2
 | [], j, t, h => absurd h (Nat.not_lt_zero _)
 | u :: l, 0, t, h => rfl
 | u :: l, j + 1, t, h => by
  have ih := cells3_set l j t (by simpa using h)
  have hc : ∀ m : List Tri, cells3 (u :: m) = u.1 :: u.2.1 :: u.2.2 :: cells3 m := fun _ => rfl
  rw [List.set_cons_succ, hc, ih, hc]
  rw [show (j + 1) * 3 = j * 3 + 3 by omega, show j * 3 + 3 + 1 = (j * 3 + 1) + 3 by omega, show j * 3 + 3 + 2 = (j * 3 + 2) + 3 by omega]
  simp only [List.set_cons_succ]
/-- l holds the numbers x, their limbs in f -/
def Frag.Tris (f : Frag) (l : List Tri) (n : Nat) (x : Nat → Raw) : Prop := l.length = n ∧ ∀ j, j < n → ∃ p q r, l[j]? = some (p, q, r) ∧ f.Rt p q r (x j)
theorem Frag.Tris.mono {f f' : Frag} {l : List Tri} {n : Nat} {x : Nat → Raw} (h : f.Tris l n x) (s : f.le f') : f'.Tris l n x :=
 ⟨h.1, fun j hj => by obtain ⟨p, q, r, h1, h2⟩ := h.2 j hj; exact ⟨p, q, r, h1, h2.mono s⟩⟩
theorem Frag.Tris.nil (f : Frag) (x : Nat → Raw) : f.Tris [] 0 x := ⟨rfl, fun j h => absurd h (Nat.not_lt_zero _)⟩
theorem Frag.Tris.snoc {f : Frag} {l : List Tri} {n : Nat} {x : Nat → Raw} (h : f.Tris l n x) {p q r : Value} (k : f.Rt p q r (x n)) : f.Tris (l ++ [(p, q, r)]) (n + 1) x := by
 refine ⟨by simp [h.1], fun j hj => ?_⟩
 rcases Nat.lt_succ_iff_lt_or_eq.1 hj with hj | rfl
 ·obtain ⟨p', q', r', h1, h2⟩ := h.2 j hj
  exact ⟨p', q', r', by rw [List.getElem?_append_left (by rw [h.1]; exact hj)]; exact h1, h2⟩
 ·exact ⟨p, q, r, by rw [List.getElem?_append_right (by rw [h.1]; exact Nat.le_refl _), h.1]; simp, k⟩
theorem Frag.Tris.set {f : Frag} {l : List Tri} {n : Nat} {x y : Nat → Raw} (h : f.Tris l n x) {j : Nat} (hj : j < n) {p q r : Value} (k : f.Rt p q r (y j)) (e : ∀ i, i < n → i ≠ j → x i = y i) : f.Tris (l.set j (p, q, r)) n y := by
 refine ⟨by rw [List.length_set, h.1], fun i hi => ?_⟩
 by_cases hij : i = j
 ·subst hij
  exact ⟨p, q, r, List.getElem?_set_self (by rw [h.1]; exact hi), k⟩
 ·obtain ⟨p', q', r', h1, h2⟩ := h.2 i hi
  exact ⟨p', q', r', by rw [List.getElem?_set_ne (fun e => hij e.symm)]; exact h1, e i hi hij ▸ h2⟩
theorem Row.get1 {T : TypeId} {size n cap : Nat} {xs cs : List Value} (h : Row T size n xs cap cs) {j : Nat} {v : Value} (hv : xs[j]? = some v) : cs[j]? = some v := by
 have hj : j < xs.length := (List.getElem?_eq_some_iff.1 hv).1
 rw [← h.take, List.getElem?_take] at hv
 split at hv
 ·exact hv
 ·cases hv
/-- a row of numbers that was appended, once it stays -/
theorem row_rw {f : Frag} {b : Nat} {T : TypeId} {n cap : Nat} {cs : List Value} {l : List Tri} {x : Nat → Raw} {fr : Nat × Nat} (hr : Row T 3 n (cells3 l) cap cs) (hb : f b = some (.cells cs.toArray T fr)) (hl : f.Tris l n x) (h2 : n ≤ 140737488355328) : f.Rw (some ⟨b, 0, none⟩) cap n x := by
 refine ⟨hr.le, hr.max, h2, fun _ => ⟨b, 0, rfl, _, _, _, hb, fun j hj => ?_⟩⟩
 obtain ⟨p, q, r, h3, h4⟩ := hl.2 j hj
 obtain ⟨e1, e2, e3⟩ := cells3_get l j _ h3
 refine ⟨p, q, r, ?_, ?_, ?_, h4⟩
 ·have := hr.get1 e1; simpa using this
 ·have := hr.get1 e2; simpa using this
 ·have := hr.get1 e3; simpa using this
/-- a block of slices of rows, once it stays -/
theorem blk_mt {f : Frag} {b : Nat} {T : TypeId} {n cap : Nat} {cs : List Value} {m : Nat → Nat} {x : Nat → Nat → Raw} {fr : Nat × Nat} (hb : f b = some (.cells cs.toArray T fr)) (h1 : n ≤ cap) (h2 : cap ≤ 9223372036854775807) (h3 : n ≤ 140737488355328)
  (h : ∀ i, i < n → ∃ B k, cs[i]? = some (.slice B (m i) k) ∧ f.Rw B k (m i) (x i)) : f.Mt (some ⟨b, 0, none⟩) cap n m x := by
 refine ⟨h1, h2, h3, fun _ => ⟨b, 0, rfl, _, _, _, hb, fun i hi => ?_⟩⟩
 obtain ⟨B, k, e1, e2⟩ := h i hi
 exact ⟨B, k, by simpa using e1, e2⟩
end Go.Proofs.YthhbbnfnejjpiaaGreatDoor.GW
namespace Go.Proofs.YthhbbnfnejjpiaaGreatDoor.GW
open Go
open Go.RowKit NL
@[go_sem] theorem run_store_func (P : Program) (w : World) (a : Addr) (m : Mode) (f : Fn) (x y : Array Value) : (store a (.func f x y) m).run P w = stored P w a (.func f x y) m := run_store P w a _ m rfl
/-- F is one of the parts I -/
def InF (F : Frag) (I : List Frag) : Prop := F ∈ I
@[go_sem] theorem InF.head (F : Frag) (I : List Frag) : InF F (F :: I) := List.mem_cons_self ..
@[go_sem] theorem InF.tail {F H : Frag} {I : List Frag} (h : InF F I) : InF F (H :: I) := List.mem_cons_of_mem _ h
section
variable {w0 : World} {X : List Nat} {M : List Blk} {I : List Frag} {F : Frag}
theorem G.cellF (g : G w0 X M I) (hF : InF F I) {b o : Nat} {cs : Array Value} {T : TypeId} {fr : Nat × Nat} {j : Nat} {v : Value} (hb : F b = some (.cells cs T fr)) (hv : cs[j]? = some v) : g.w.cell? ⟨b, j, Option.none⟩ = some v := by
 have := g.sub F hF _ _ hb
 simp only [World.cell?, this]
 exact hv
/-- a number's three cells, wherever the part F stays -/
def Frag.C3 (F : Frag) (b o : Nat) (p q r : Value) : Prop := ∀ (w0 : World) (X : List Nat) (M : List Blk) (I : List Frag) (g : G w0 X M I), InF F I → g.w.cell? ⟨b, o, none⟩ = some p ∧ g.w.cell? ⟨b, o + 1, none⟩ = some q ∧ g.w.cell? ⟨b, o + 2, none⟩ = some r
theorem Frag.Rw.num {f : Frag} {A : Option Addr} {c n : Nat} {x : Nat → Raw} (h : f.Rw A c n x) (h0 : 0 < n) : ∃ b o, A = some ⟨b, o, none⟩ ∧ ∀ j, j < n → ∃ p q r, f.C3 b (o + j * 3) p q r ∧ f.Rt p q r (x j) := by
 obtain ⟨b, o, e, cs, T, fr, hb, hc⟩ := h.row h0
 refine ⟨b, o, e, fun j hj => ?_⟩
 obtain ⟨p, q, r, h1, h2, h3, h4⟩ := hc j hj
 exact ⟨p, q, r, fun w0 X M I g hI => ⟨g.cellF hI (o := o) hb h1, g.cellF hI (o := o) hb h2, g.cellF hI (o := o) hb h3⟩, h4⟩
/-- one cell, wherever the part F stays -/
def Frag.C1 (F : Frag) (b o : Nat) (v : Value) : Prop := ∀ (w0 : World) (X : List Nat) (M : List Blk) (I : List Frag) (g : G w0 X M I), InF F I → g.w.cell? ⟨b, o, none⟩ = some v
theorem Frag.Mt.rowAt {f : Frag} {A : Option Addr} {c n : Nat} {m : Nat → Nat} {x : Nat → Nat → Raw} (h : f.Mt A c n m x) (h0 : 0 < n) : ∃ b o, A = some ⟨b, o, none⟩ ∧ ∀ i, i < n → ∃ B k, f.C1 b (o + i) (.slice B (m i) k) ∧ f.Rw B k (m i) (x i) := by
 obtain ⟨b, o, e, cs, T, fr, hb, hc⟩ := h.rows h0
 refine ⟨b, o, e, fun i hi => ?_⟩
 obtain ⟨B, k, h1, h2⟩ := hc i hi
 exact ⟨B, k, fun w0 X M I g hI => g.cellF hI (o := o) hb h1, h2⟩
/-- two parts become one -/
theorem G.merge {H : Frag} (g : G w0 X M (H :: F :: I)) : ∃ F' : Frag, ∃ g' : G w0 X M (F' :: I), g.w = g'.w ∧ F.le F' ∧ H.le F' ∧ ∀ k o, F' k = some o → F k = some o ∨ H k = some o := by
 have sF := g.sub F (by simp)
 have sH := g.sub H (by simp)
 obtain ⟨g1, e1⟩ := (g.see (H.or F) (Frag.or_sub sH sF) (fun k o h => by rcases Frag.or_some h with h | h; exact g.keep H (by simp) k o h; exact g.keep F (by simp) k o h)).lessI (I' := H.or F :: I) (by
  intro f hf
  rcases List.mem_cons.1 hf with rfl | hf
  ·exact List.mem_cons_self ..
  ·simp [hf])
 exact ⟨_, g1, e1, Frag.le_orr sH sF, Frag.le_orl H F, fun k o h => (Frag.or_some h).symm⟩
end
/-- what is of F is new since w0 -/
def Frag.Nw (F : Frag) (w0 : World) : Prop := ∀ k o, F k = some o → w0.heap.size ≤ k
theorem Frag.Nw.none (w0 : World) : Frag.Nw (fun _ => Option.none) w0 := by intro k o h; cases h
section
variable {w0 : World} {X : List Nat} {M : List Blk} {I : List Frag} {F : Frag}
theorem G.newF (g : G w0 [] M (F :: I)) (hn : F.Nw w0) : New w0 g.w F := ⟨g.below, g.sub F (by simp), hn⟩
/-- an empty part at the head -/
theorem G.none_ex (g : G w0 X M I) : ∃ g' : G w0 X M ((fun _ => Option.none) :: I), g.w = g'.w :=
 ⟨g.see (fun _ => Option.none) (fun k o h => by cases h) (fun k o h => by cases h), rfl⟩
/-- own blocks become part of what stays -/
theorem G.layR : ∀ (R : List Blk) {F : Frag} (g : G w0 [] (R ++ M) (F :: I)), ∃ F' : Frag, ∃ g' : G w0 [] M (F' :: I), g.w = g'.w ∧ F.le F' ∧ (∀ m ∈ R, F' m.1 = some (.cells m.2.2.toArray m.2.1 (0, 0))) ∧ (F.Nw w0 → F'.Nw w0)
 | [], F, g => ⟨F, g, rfl, Frag.le_refl F, by simp, id⟩
 | (b, T, cs) :: R, F, g => by
  have hb := g.own _ (List.mem_cons_self ..)
  simp only at hb
  have hd := g.dist
  rw [List.cons_append, List.map_cons, List.nodup_cons] at hd
  have hfr := g.fresh (List.mem_cons_self ..)
  obtain ⟨g1, e1⟩ := g.less (M' := R ++ M) (List.sublist_cons_self _ _)
  have hB := blkF_sub hb
  rw [e1] at hB
  let g2 : G w0 [] (R ++ M) (blkF b (.cells cs.toArray T (0, 0)) :: F :: I) := g1.see _ hB (fun k o e => by
   refine ⟨.inr (by simp), fun hm => ?_⟩
   unfold blkF at e
   split at e
   ·next h => subst h; exact hd.1 hm
   ·cases e)
  obtain ⟨F1, g3, e3, h1, h2, h3⟩ := g2.merge
  obtain ⟨F', g', e', k1, k2, k3⟩ := G.layR R g3
  refine ⟨F', g', (e1.trans e3).trans e', Frag.le_trans h1 k1, fun m hm => ?_, fun hn => k3 fun k o hk => ?_⟩
  ·rcases List.mem_cons.1 hm with rfl | hm
   ·exact k1 _ _ (h2 _ _ (by unfold blkF; rw [if_pos rfl]))
   ·exact k2 m hm
  ·rcases h3 k o hk with hk | hk
   ·exact hn k o hk
   ·unfold blkF at hk
    split at hk
    ·next h => subst h; exact hfr
    ·cases hk
end
def OwnOn (S : List Nat) (Q : Nat → Value → List Blk → Prop) (R : List Blk) (oc : List Value) : Prop := ∃ Rs : Nat → List Blk, R.Perm (S.flatMap Rs) ∧ ∀ j ∈ S, ∃ v, oc[j]? = some v ∧ Q j v (Rs j)
theorem OwnOn.nil (Q : Nat → Value → List Blk → Prop) (oc : List Value) : OwnOn [] Q [] oc := ⟨fun _ => [], List.Perm.refl _, fun j h => by cases h⟩
theorem OwnOn.perm {S S' : List Nat} {Q : Nat → Value → List Blk → Prop} {R : List Blk} {oc : List Value} (h : OwnOn S Q R oc) (hp : S.Perm S') : OwnOn S' Q R oc := by
 obtain ⟨Rs, h1, h2⟩ := h
 exact ⟨Rs, h1.trans (List.Perm.flatMap_right Rs hp), fun j hj => h2 j (hp.mem_iff.2 hj)⟩
theorem OwnOn.open1 {i : Nat} {S : List Nat} {Q : Nat → Value → List Blk → Prop} {R : List Blk} {oc : List Value} (h : OwnOn (i :: S) Q R oc) : ∃ v s R', oc[i]? = some v ∧ Q i v s ∧ R.Perm (s ++ R') ∧ OwnOn S Q R' oc := by
 obtain ⟨Rs, h1, h2⟩ := h
 obtain ⟨v, h3, h4⟩ := h2 i (List.mem_cons_self ..)
 exact ⟨v, Rs i, S.flatMap Rs, h3, h4, by rwa [List.flatMap_cons] at h1, Rs, List.Perm.refl _, fun j hj => h2 j (List.mem_cons_of_mem _ hj)⟩
theorem OwnOn.next {S : List Nat} {Q Q' : Nat → Value → List Blk → Prop} {R : List Blk} {oc oc' : List Value} (h : OwnOn S Q R oc) (h1 : ∀ j ∈ S, oc'[j]? = oc[j]?) (h2 : ∀ j ∈ S, ∀ v s, Q j v s → Q' j v s) : OwnOn S Q' R oc' := by
 obtain ⟨Rs, k1, k2⟩ := h
 refine ⟨Rs, k1, fun j hj => ?_⟩
 obtain ⟨v, k3, k4⟩ := k2 j hj
 exact ⟨v, (h1 j hj).trans k3, h2 j hj v _ k4⟩
theorem OwnOn.close1 {i : Nat} {S : List Nat} {Q : Nat → Value → List Blk → Prop} {R' : List Blk} {oc : List Value} {v : Value} {s : List Blk} (h : OwnOn S Q R' oc) (hi : i ∉ S) (h1 : oc[i]? = some v) (h2 : Q i v s) : OwnOn (i :: S) Q (s ++ R') oc := by
 obtain ⟨Rs, k1, k2⟩ := h
 refine ⟨fun j => if j = i then s else Rs j, ?_, fun j hj => ?_⟩
 ·rw [List.flatMap_cons, if_pos rfl]
  refine List.Perm.append_left s (k1.trans ?_)
  rw [show S.flatMap Rs = S.flatMap (fun j => if j = i then s else Rs j) from ?_]
  clear k1 k2
  induction S with
  | nil => rfl
  | cons a S ih =>
   rw [List.mem_cons, not_or] at hi
   rw [List.flatMap_cons, List.flatMap_cons, if_neg (fun e => hi.1 e.symm), ih hi.2]
 ·rcases List.mem_cons.1 hj with rfl | hj
  ·exact ⟨v, h1, by simp only [if_true]; exact h2⟩
  ·obtain ⟨u, k3, k4⟩ := k2 j hj
   have : j ≠ i := fun e => hi (e ▸ hj)
   exact ⟨u, k3, by simp only [if_neg this]; exact k4⟩
/-- the first n but i -/
def but (n i : Nat) : List Nat := (List.range n).erase i
theorem but_perm {n i : Nat} (h : i < n) : (List.range n).Perm (i :: but n i) := List.perm_cons_erase (List.mem_range.2 h)
theorem but_not (n i : Nat) : i ∉ but n i := by
 unfold but
 intro h
 exact absurd rfl ((List.Nodup.mem_erase_iff List.nodup_range).1 h).1
theorem mem_but {n i j : Nat} : j ∈ but n i ↔ j ≠ i ∧ j < n := by
 unfold but
 rw [List.Nodup.mem_erase_iff List.nodup_range, List.mem_range]
/-- row i is opened -/
theorem OwnOn.openAt {n i : Nat} {Q : Nat → Value → List Blk → Prop} {R : List Blk} {oc : List Value} (h : OwnOn (List.range n) Q R oc) (hi : i < n) : ∃ v s R', oc[i]? = some v ∧ Q i v s ∧ R.Perm (s ++ R') ∧ OwnOn (but n i) Q R' oc := (h.perm (but_perm hi)).open1
/-- row i is closed, as another -/
theorem OwnOn.closeAt {n i : Nat} {Q Q' : Nat → Value → List Blk → Prop} {R' : List Blk} {oc oc' : List Value} {v : Value} {s : List Blk} (h : OwnOn (but n i) Q R' oc) (hi : i < n) (h1 : oc'[i]? = some v) (h2 : Q' i v s) (h3 : ∀ j, j ≠ i → j < n → oc'[j]? = oc[j]?) (h4 : ∀ j, j ≠ i → j < n → ∀ v s, Q j v s → Q' j v s) : OwnOn (List.range n) Q' (s ++ R') oc' :=
 (((h.next (oc' := oc') (Q' := Q') (fun j hj => h3 j (mem_but.1 hj).1 (mem_but.1 hj).2) (fun j hj => h4 j (mem_but.1 hj).1 (mem_but.1 hj).2)).close1 (but_not n i) h1 h2)).perm (but_perm hi).symm
/-- one row more -/
theorem OwnOn.more {n : Nat} {Q Q' : Nat → Value → List Blk → Prop} {R : List Blk} {oc oc' : List Value} {v : Value} {s : List Blk} (h : OwnOn (List.range n) Q R oc) (h1 : oc'[n]? = some v) (h2 : Q' n v s) (h3 : ∀ j, j < n → oc'[j]? = oc[j]?) (h4 : ∀ j, j < n → ∀ v s, Q j v s → Q' j v s) : OwnOn (List.range (n + 1)) Q' (s ++ R) oc' := by
 have := (h.next (oc' := oc') (Q' := Q') (fun j hj => h3 j (List.mem_range.1 hj)) (fun j hj => h4 j (List.mem_range.1 hj))).close1 (by simp) h1 h2
 refine this.perm ?_
 rw [List.range_succ]
 exact (List.perm_append_singleton n _).symm
def RowV (lo : Nat) (e : TypeId) (size k : Nat) (xs : List Value) (A : Option Addr) (c : Nat) (s : List Blk) : Prop :=
 (A = none ∧ c = 0 ∧ k = 0 ∧ xs = [] ∧ s = []) ∨ ∃ b cs, A = some ⟨b, 0, none⟩ ∧ s = [(b, e, cs)] ∧ lo ≤ b ∧ Row e size k xs c cs
theorem RowV.nil (lo : Nat) (e : TypeId) (size : Nat) : RowV lo e size 0 [] none 0 [] := .inl ⟨rfl, rfl, rfl, rfl, rfl⟩
theorem RowV.row {lo b : Nat} {e : TypeId} {size k c : Nat} {xs cs : List Value} (h : Row e size k xs c cs) (hb : lo ≤ b) : RowV lo e size k xs (some ⟨b, 0, none⟩) c [(b, e, cs)] := .inr ⟨b, cs, rfl, rfl, hb, h⟩
section
variable {w0 : World} {X : List Nat} {M : List Blk} {I : List Frag}
/-- append of what was written out (block bs) to a slice that is nil or whose block stands behind the first n₀ blocks -/
theorem wpList_append_v {P : Program} {ops : Array Oper} {rest : List Oper} {o : Oper} {a : Act} {Q : Exit → Act → World → Prop} (hgd : o.guard = none) (s x : Operand) (t : TypeId)
  (ho : o.op = .call { callee := .builtin .append, args := #[s, x], argTypes := #[t, t] })
  (e : TypeId) (i : TypeInfo) (z : Value) (size bytes : Nat) (ht : P.underlying t = some (.slice e)) (hi : P.info? e = some i) (hz : i.zero = some z)
  (hsize : i.size = size) (hby : i.bytes = bytes) (hzs : z.cells.size = size) (hsz : 0 < size)
  (n₀ : Nat) (g : G w0 X M I) {Rr R' : List Blk} (hM : M.drop n₀ = Rr ++ R') {A : Option Addr} {c k : Nat} {xs : List Value} (hv : RowV w0.heap.size e size k xs A c Rr) (hs : a.eval s = .slice A k c)
  {bs : Nat} {news : List Value} (hbs : (bs, e, news) ∈ M.take n₀) (m : Nat) (hx : a.eval x = .slice (some ⟨bs, 0, none⟩) m m) (hl : news.length = m * size) (h1 : ∀ u ∈ news, u.oneCell' = true)
  (hm : 0 < m) (h63 : k + m ≤ maxLen) (hbytes : (k + m) * bytes ≤ 140737488355328)
  (h : ∀ b cap cs, ∀ g' : G w0 X (M.take n₀ ++ (b, e, cs) :: R') I, w0.heap.size ≤ b → Row e size (k + m) (xs ++ news) cap cs → wpList P ops Q rest (a.put o.dst (.slice (some ⟨b, 0, none⟩) (k + m) cap)) g'.w) :
  wpList P ops Q (o :: rest) a g.w := by
 have eM : M = M.take n₀ ++ (Rr ++ R') := by rw [← hM, List.take_append_drop]
 have hsub : (M.take n₀ ++ R').Sublist M := by
  conv => rhs; rw [eM]
  exact (List.Sublist.refl _).append (List.sublist_append_right _ _)
 obtain ⟨g1, e1⟩ := g.less hsub
 have hd := g.dist
 have hk := g.keep
 have hbm : (bs, e, news) ∈ M.take n₀ ++ R' := List.mem_append_left _ hbs
 have hnews : ∀ j u, news[j]? = some u → g1.w.cell? ((⟨bs, 0, none⟩ : Addr).add j) = some u := by
  intro j u hj
  have := g1.own _ hbm
  simp only at this
  rw [add_off]
  simp [World.cell?, this, hj]
 rw [e1]
 have fin : ∀ b cap cs, ∀ g' : G w0 X ((b, e, cs) :: (M.take n₀ ++ R')) I, w0.heap.size ≤ b → Row e size (k + m) (xs ++ news) cap cs → wpList P ops Q rest (a.put o.dst (.slice (some ⟨b, 0, none⟩) (k + m) cap)) g'.w := by
  intro b cap cs g' hb hr
  obtain ⟨g2, e2⟩ := g'.perm (M' := M.take n₀ ++ (b, e, cs) :: R') List.perm_middle.symm
  rw [e2]
  exact h b cap cs g2 hb hr
 rcases hv with ⟨rfl, rfl, rfl, rfl, rfl⟩ | ⟨b, cs, rfl, rfl, hb, hr⟩
 ·exact wpList_append_g hgd s x t ho e i z size bytes ht hi hz hsize hby hzs hsz g1 _ 0 [] hs (g1.rowNil e size) (by intro m _ h; cases h) (by intro f _ k o _ h; cases h) ⟨bs, 0, none⟩ m m news hx hl hnews h1 hm h63 hbytes fin
 ·have hbM : (b, e, cs) ∈ M := by rw [eM]; simp
  have hown := g.rowAt hr hbM hb
  rw [e1] at hown
  refine wpList_append_g hgd s x t ho e i z size bytes ht hi hz hsize hby hzs hsz g1 _ k xs hs hown ?_ ?_ ⟨bs, 0, none⟩ m m news hx hl hnews h1 hm h63 hbytes fin
  ·intro m' hm' e'
   have e3 : m'.1 = b := Option.some.inj e'
   have p : (M.map (·.1)).Perm (b :: (M.take n₀ ++ R').map (·.1)) := by
    have : M.Perm ((b, e, cs) :: (M.take n₀ ++ R')) := by
     conv => lhs; rw [eM]
     exact List.perm_middle
    exact this.map _
   have := (p.nodup_iff.1 hd)
   rw [List.nodup_cons] at this
   exact this.1 (List.mem_map.2 ⟨m', hm', e3⟩)
  ·intro f hf k' o' hk' e'
   have e3 : k' = b := Option.some.inj e'
   exact (hk f hf k' o' hk').2 (List.mem_map.2 ⟨_, hbM, e3.symm⟩)
/-- the same, as a step of a region that draws its order -/
theorem step_append_v {P : Program} {ops : Array Oper} {o : Oper} {a : Act} {K : Act → World → Prop} {Q : Exit → Act → World → Prop} {E : Prop} (hgd : o.guard = none) (s x : Operand) (t : TypeId)
  (ho : o.op = .call { callee := .builtin .append, args := #[s, x], argTypes := #[t, t] })
  (e : TypeId) (i : TypeInfo) (z : Value) (size bytes : Nat) (ht : P.underlying t = some (.slice e)) (hi : P.info? e = some i) (hz : i.zero = some z)
  (hsize : i.size = size) (hby : i.bytes = bytes) (hzs : z.cells.size = size) (hsz : 0 < size)
  (n₀ : Nat) (g : G w0 X M I) {Rr R' : List Blk} (hM : M.drop n₀ = Rr ++ R') {A : Option Addr} {c k : Nat} {xs : List Value} (hv : RowV w0.heap.size e size k xs A c Rr) (hs : a.eval s = .slice A k c)
  {bs : Nat} {news : List Value} (hbs : (bs, e, news) ∈ M.take n₀) (m : Nat) (hx : a.eval x = .slice (some ⟨bs, 0, none⟩) m m) (hl : news.length = m * size) (h1 : ∀ u ∈ news, u.oneCell' = true)
  (hm : 0 < m) (h63 : k + m ≤ maxLen) (hbytes : (k + m) * bytes ≤ 140737488355328)
  (h : ∀ b cap cs, ∀ g' : G w0 X (M.take n₀ ++ (b, e, cs) :: R') I, w0.heap.size ≤ b → Row e size (k + m) (xs ++ news) cap cs → K (a.put o.dst (.slice (some ⟨b, 0, none⟩) (k + m) cap)) g'.w) :
  if Region.wanted o (yielded ops a.tmps) = true then Oper.wp P o a g.w K Q else E := by
 have hw : Region.wanted o (yielded ops a.tmps) = true := by simp [Region.wanted, hgd]
 rw [if_pos hw]
 have eM : M = M.take n₀ ++ (Rr ++ R') := by rw [← hM, List.take_append_drop]
 have hsub : (M.take n₀ ++ R').Sublist M := by
  conv => rhs; rw [eM]
  exact (List.Sublist.refl _).append (List.sublist_append_right _ _)
 obtain ⟨g1, e1⟩ := g.less hsub
 have hd := g.dist
 have hk := g.keep
 have hbm : (bs, e, news) ∈ M.take n₀ ++ R' := List.mem_append_left _ hbs
 have hnews : ∀ j u, news[j]? = some u → g1.w.cell? ((⟨bs, 0, none⟩ : Addr).add j) = some u := by
  intro j u hj
  have := g1.own _ hbm
  simp only at this
  rw [add_off]
  simp [World.cell?, this, hj]
 rw [e1]
 have fin : ∀ b cap cs, ∀ g' : G w0 X ((b, e, cs) :: (M.take n₀ ++ R')) I, w0.heap.size ≤ b → Row e size (k + m) (xs ++ news) cap cs → K (a.put o.dst (.slice (some ⟨b, 0, none⟩) (k + m) cap)) g'.w := by
  intro b cap cs g' hb hr
  obtain ⟨g2, e2⟩ := g'.perm (M' := M.take n₀ ++ (b, e, cs) :: R') List.perm_middle.symm
  rw [e2]
  exact h b cap cs g2 hb hr
 rcases hv with ⟨rfl, rfl, rfl, rfl, rfl⟩ | ⟨b, cs, rfl, rfl, hb, hr⟩
 ·exact wp_append_g s x t ho e i z size bytes ht hi hz hsize hby hzs hsz g1 _ 0 [] hs (g1.rowNil e size) (by intro m _ h; cases h) (by intro f _ k o _ h; cases h) ⟨bs, 0, none⟩ m m news hx hl hnews h1 hm h63 hbytes fin
 ·have hbM : (b, e, cs) ∈ M := by rw [eM]; simp
  have hown := g.rowAt hr hbM hb
  rw [e1] at hown
  refine wp_append_g s x t ho e i z size bytes ht hi hz hsize hby hzs hsz g1 _ k xs hs hown ?_ ?_ ⟨bs, 0, none⟩ m m news hx hl hnews h1 hm h63 hbytes fin
  ·intro m' hm' e'
   have e3 : m'.1 = b := Option.some.inj e'
   have p : (M.map (·.1)).Perm (b :: (M.take n₀ ++ R').map (·.1)) := by
    have : M.Perm ((b, e, cs) :: (M.take n₀ ++ R')) := by
     conv => lhs; rw [eM]
     exact List.perm_middle
    exact this.map _
   have := (p.nodup_iff.1 hd)
   rw [List.nodup_cons] at this
   exact this.1 (List.mem_map.2 ⟨m', hm', e3⟩)
  ·intro f hf k' o' hk' e'
   have e3 : k' = b := Option.some.inj e'
   exact (hk f hf k' o' hk').2 (List.mem_map.2 ⟨_, hbM, e3.symm⟩)
/-- the blocks ahead are forgotten -/
theorem G.forget (g : G w0 X M I) (n : Nat) : ∃ g' : G w0 X (M.drop n) I, g.w = g'.w := g.less (List.drop_sublist n M)
end
def NumRow (lo : Nat) (T : TypeId) (F : Frag) (n : Nat) (x : Nat → Raw) (v : Value) (s : List Blk) : Prop := ∃ A c l, v = .slice A n c ∧ RowV lo T 3 n (cells3 l) A c s ∧ F.Tris l n x
theorem NumRow.mono {lo : Nat} {T : TypeId} {F F' : Frag} {n : Nat} {x : Nat → Raw} {v : Value} {s : List Blk} (h : NumRow lo T F n x v s) (hF : F.le F') : NumRow lo T F' n x v s := by
 obtain ⟨A, c, l, h1, h2, h3⟩ := h
 exact ⟨A, c, l, h1, h2, h3.mono hF⟩
theorem NumRow.nil (lo : Nat) (T : TypeId) (F : Frag) (x : Nat → Raw) : NumRow lo T F 0 x (.slice none 0 0) [] := ⟨none, 0, [], rfl, RowV.nil _ _ _, Frag.Tris.nil F x⟩
theorem Frag.Tris.congr {f : Frag} {l : List Tri} {n : Nat} {x y : Nat → Raw} (h : f.Tris l n x) (e : ∀ j, j < n → x j = y j) : f.Tris l n y :=
 ⟨h.1, fun j hj => by obtain ⟨p, q, r, h1, h2⟩ := h.2 j hj; exact ⟨p, q, r, h1, e j hj ▸ h2⟩⟩
theorem NumRow.congr {lo : Nat} {T : TypeId} {F : Frag} {n : Nat} {x y : Nat → Raw} {v : Value} {s : List Blk} (h : NumRow lo T F n x v s) (e : ∀ j, j < n → x j = y j) : NumRow lo T F n y v s := by
 obtain ⟨A, c, l, h1, h2, h3⟩ := h
 exact ⟨A, c, l, h1, h2, h3.congr e⟩
/-- a number was appended -/
theorem NumRow.snoc {lo b : Nat} {T : TypeId} {F F' : Frag} {n cap : Nat} {x : Nat → Raw} {l : List Tri} {cs : List Value} {p q r : Value} (hl : F.Tris l n x) (hF : F.le F') (hr : Row T 3 (n + 1) (cells3 l ++ [p, q, r]) cap cs) (hb : lo ≤ b) (h : F'.Rt p q r (x n)) : NumRow lo T F' (n + 1) x (.slice (some ⟨b, 0, none⟩) (n + 1) cap) [(b, T, cs)] :=
 ⟨_, cap, l ++ [(p, q, r)], rfl, RowV.row (by rw [cells3_append]; exact hr) hb, (hl.mono hF).snoc h⟩
/-- a row that stays -/
theorem NumRow.rw {lo : Nat} {T : TypeId} {F F' : Frag} {n : Nat} {x : Nat → Raw} {v : Value} {s : List Blk} (h : NumRow lo T F n x v s) (hF : F.le F') (hs : ∀ m ∈ s, F' m.1 = some (.cells m.2.2.toArray m.2.1 (0, 0))) (h2 : n ≤ 140737488355328) : ∃ A c, v = .slice A n c ∧ F'.Rw A c n x := by
 obtain ⟨A, c, l, rfl, hv, hl⟩ := h
 refine ⟨A, c, rfl, ?_⟩
 rcases hv with ⟨rfl, rfl, rfl, _, _⟩ | ⟨b, cs, rfl, rfl, hb, hr⟩
 ·exact Frag.Rw.nil F' _ x
 ·exact row_rw hr (hs _ (List.mem_singleton.2 rfl)) (hl.mono hF) h2
/-- a matrix that was built, once it stays -/
theorem OwnOn.mt {lo : Nat} {T Ts : TypeId} {F F' : Frag} {n : Nat} {m : Nat → Nat} {x : Nat → Nat → Raw} {R : List Blk} {oc : List Value} {ob cap : Nat} (h : OwnOn (List.range n) (fun i => NumRow lo T F (m i) (x i)) R oc) (hF : F.le F') (hs : ∀ m ∈ R, F' m.1 = some (.cells m.2.2.toArray m.2.1 (0, 0))) (ho : F' ob = some (.cells oc.toArray Ts (0, 0)))
  (h1 : n ≤ cap) (h2 : cap ≤ 9223372036854775807) (h3 : n ≤ 140737488355328) (h4 : ∀ i, i < n → m i ≤ 140737488355328) : F'.Mt (some ⟨ob, 0, none⟩) cap n m x := by
 refine blk_mt ho h1 h2 h3 fun i hi => ?_
 obtain ⟨Rs, k1, k2⟩ := h
 obtain ⟨v, k3, k4⟩ := k2 i (List.mem_range.2 hi)
 obtain ⟨A, c, rfl, k5⟩ := k4.rw hF (fun m hm => hs m (k1.mem_iff.2 (List.mem_flatMap.2 ⟨i, List.mem_range.2 hi, hm⟩))) (h4 i hi)
 exact ⟨A, c, k3, k5⟩
theorem own_start (n : Nat) (Q : Nat → Value → List Blk → Prop) (h : ∀ i, i < n → Q i (.slice none 0 0) []) : OwnOn (List.range n) Q [] (List.replicate n (.slice none 0 0)) := by
 refine ⟨fun _ => [], ?_, fun j hj => ⟨_, by rw [List.getElem?_replicate, if_pos (List.mem_range.1 hj)], h j (List.mem_range.1 hj)⟩⟩
 rw [show (List.range n).flatMap (fun _ => ([] : List Blk)) = [] by induction (List.range n) <;> simp_all]
theorem Row.tri {T : TypeId} {m cap : Nat} {l : List Tri} {cs : List Value} (h : Row T 3 m (cells3 l) cap cs) {j : Nat} {p q r : Value} (hj : l[j]? = some (p, q, r)) : cs[j * 3]? = some p ∧ cs[j * 3 + 1]? = some q ∧ cs[j * 3 + 2]? = some r := by
 obtain ⟨h1, h2, h3⟩ := cells3_get l j _ hj
 exact ⟨h.get1 h1, h.get1 h2, h.get1 h3⟩
theorem Row.setTri {T : TypeId} {m cap : Nat} {l : List Tri} {cs : List Value} (h : Row T 3 m (cells3 l) cap cs) {j : Nat} (hj : j < m) (hl : l.length = m) (p q r : Value) : Row T 3 m (cells3 (l.set j (p, q, r))) cap (((cs.set (j * 3) p).set (j * 3 + 1) q).set (j * 3 + 2) r) := by
 refine ⟨h.le, h.max, by simp [h.len], ?_, by rw [cells3_len, List.length_set, ← cells3_len]; exact h.xl⟩
 rw [cells3_set _ _ _ (by omega), ← h.take]
 simp only [List.take_set]
/-- a matrix that a walk has built becomes part of what stays -/
theorem G.freeze {w0 : World} {n : Nat} {m : Nat → Nat} {x : Nat → Nat → Raw} {T Ts : TypeId} {F : Frag} {R M : List Blk} {I : List Frag} {oc : List Value} {ob : Nat} (g : G w0 [] ((ob, Ts, oc) :: (R ++ M)) (F :: I)) (h : OwnOn (List.range n) (fun i => NumRow w0.heap.size T F (m i) (x i)) R oc) (hn : F.Nw w0) (h3 : n ≤ 140737488355328) (h4 : ∀ i, i < n → m i ≤ 140737488355328) :
  ∃ F' : Frag, ∃ g' : G w0 [] M (F' :: I), g.w = g'.w ∧ F'.Mt (some ⟨ob, 0, Option.none⟩) n n m x ∧ F.le F' ∧ F'.Nw w0 := by
 obtain ⟨g1, e1⟩ := g.as (M' := ((ob, Ts, oc) :: R) ++ M) rfl
 obtain ⟨F', g', e', hle, hb, hnw⟩ := G.layR ((ob, Ts, oc) :: R) g1
 refine ⟨F', g', e1.trans e', h.mt hle (fun m hm => hb m (List.mem_cons_of_mem _ hm)) (hb _ (List.mem_cons_self ..)) (Nat.le_refl n) (by omega) h3 h4, hle, hnw hn⟩
/-- rows before i have m numbers, row i has k, those behind none -/
def lenA (m i k : Nat) (j : Nat) : Nat := if j < i then m else if j = i then k else 0
theorem lenA_at (m i k : Nat) : lenA m i k i = k := by unfold lenA; rw [if_neg (Nat.lt_irrefl i), if_pos rfl]
theorem lenA_ne (m : Nat) {i j k k' : Nat} (h : j ≠ i) : lenA m i k j = lenA m i k' j := by unfold lenA; rw [if_neg h, if_neg h]
theorem lenA_full (m i j : Nat) : lenA m i m j = lenA m (i + 1) 0 j := by
 unfold lenA
 by_cases h : j < i
 ·rw [if_pos h, if_pos (by omega)]
 ·by_cases h2 : j = i
  ·rw [if_neg h, if_pos h2, if_pos (by omega)]
  ·rw [if_neg h, if_neg h2, if_neg (by omega), ite_self]
theorem lenA_end {m n j : Nat} (h : j < n) : lenA m n 0 j = m := if_pos h
theorem lenA_start (m j : Nat) : lenA m 0 0 j = 0 := by unfold lenA; rw [if_neg (Nat.not_lt_zero j), ite_self]
end Go.Proofs.YthhbbnfnejjpiaaGreatDoor.GW
namespace Go.Proofs.YthhbbnfnejjpiaaGreatDoor.MX
open Go
/-- The row's entries are N / D with one D, D at most 2^q, the numerators at most 2^n. -/
def RowQ (n q : Nat) (r : List Rat) : Prop := ∃ D : Nat, 0 < D ∧ D ≤ 2 ^ q ∧ ∀ x ∈ r, ∃ N : Int, N.natAbs ≤ 2 ^ n ∧ x * (D : Rat) = (N : Rat)
theorem RowQ.mono {n q n' q' : Nat} {r : List Rat} (h : RowQ n q r) (hn : n ≤ n') (hq : q ≤ q') : RowQ n' q' r := by
 obtain ⟨D, h0, h1, h2⟩ := h
 refine ⟨D, h0, Nat.le_trans h1 (Nat.pow_le_pow_right (by decide) hq), fun x hx => ?_⟩
 obtain ⟨N, a, b⟩ := h2 x hx
 exact ⟨N, Nat.le_trans a (Nat.pow_le_pow_right (by decide) hn), b⟩
theorem natCast_ne {D : Nat} (h : 0 < D) : (D : Rat) ≠ 0 := by
 intro e
 have : (D : Rat) = ((0 : Nat) : Rat) := e
 rw [Rat.natCast_inj] at this
 omega
theorem mul_pow_le {a b n m : Nat} (ha : a ≤ 2 ^ n) (hb : b ≤ 2 ^ m) : a * b ≤ 2 ^ (n + m) := by
 rw [Nat.pow_add]; exact Nat.mul_le_mul ha hb
theorem RowQ.div {n q : Nat} {r : List Rat} {p : Rat} (h : RowQ n q r) (hp : p ∈ r) (h0 : p ≠ 0) : RowQ n n (r.map (· / p)) := by
 obtain ⟨D, hD, h1, h2⟩ := h
 obtain ⟨P, hP, eP⟩ := h2 p hp
 have hD' := natCast_ne hD
 have hPne : P ≠ 0 := by
  intro e
  rw [e] at eP
  have : p * (D : Rat) = 0 := by simpa using eP
  rcases Rat.mul_eq_zero.1 this with k | k
  ·exact h0 k
  ·exact hD' k
 refine ⟨P.natAbs, by omega, hP, fun y hy => ?_⟩
 obtain ⟨x, hx, rfl⟩ := List.mem_map.1 hy
 obtain ⟨N, hN, eN⟩ := h2 x hx
 refine ⟨if 0 ≤ P then N else -N, by split <;> simpa using hN, ?_⟩
 have key : x / p * (P : Rat) = (N : Rat) := by
  rw [← eP, ← eN, Rat.div_def]
  rw [show x * p⁻¹ * (p * (D : Rat)) = x * (D : Rat) * (p * p⁻¹) by grind, Rat.mul_inv_cancel _ h0, Rat.mul_one]
 split
 ·rename_i hs
  have e : ((P.natAbs : Nat) : Rat) = (P : Rat) := by
   rw [← Rat.intCast_natCast, Int.natAbs_of_nonneg hs]
  rw [e, key]
 ·rename_i hs
  have e : ((P.natAbs : Nat) : Rat) = -(P : Rat) := by
   rw [← Rat.intCast_natCast, ← Rat.intCast_neg]
   congr 1
   omega
  rw [e, Rat.mul_neg, key, Rat.intCast_neg]
theorem RowQ.sub {n q m : Nat} {r s : List Rat} {f : Rat} (h : RowQ n q r) (k : RowQ n m s) (hf : f ∈ r) (hl : r.length = s.length) : RowQ (n + max n m + 1) (q + m) (List.zipWith (fun y z => y - f * z) r s) := by
 obtain ⟨D, hD, h1, h2⟩ := h
 obtain ⟨E, hE, k1, k2⟩ := k
 obtain ⟨F, hF, eF⟩ := h2 f hf
 refine ⟨D * E, Nat.mul_pos hD hE, mul_pow_le h1 k1, fun x hx => ?_⟩
 obtain ⟨i, hi, rfl⟩ := List.getElem_of_mem hx
 rw [List.getElem_zipWith]
 simp only [List.length_zipWith] at hi
 obtain ⟨N, hN, eN⟩ := h2 r[i] (List.getElem_mem _)
 obtain ⟨M, hM, eM⟩ := k2 s[i] (List.getElem_mem _)
 refine ⟨N * E - F * M, ?_, ?_⟩
 ·have a1 : (N * E).natAbs ≤ 2 ^ (n + max n m) := by
   rw [Int.natAbs_mul, Int.natAbs_natCast]
   exact mul_pow_le hN (Nat.le_trans k1 (Nat.pow_le_pow_right (by decide) (by omega)))
  have a2 : (F * M).natAbs ≤ 2 ^ (n + max n m) := by
   rw [Int.natAbs_mul]
   exact mul_pow_le hF (Nat.le_trans hM (Nat.pow_le_pow_right (by decide) (by omega)))
  rw [Nat.pow_succ]
  omega
 ·rw [Rat.natCast_mul, Rat.intCast_sub, Rat.intCast_mul, Rat.intCast_mul, Rat.intCast_natCast, ← eN, ← eF, ← eM]
  grind
end Go.Proofs.YthhbbnfnejjpiaaGreatDoor.MX
namespace Go.Proofs.YthhbbnfnejjpiaaGreatDoor.GW
open Go
open Go.RowKit NL
abbrev I64 (x : Int) : Prop := -9223372036854775808 ≤ x ∧ x < 9223372036854775808
/-- a slice of n ints -/
structure Frag.Ir (f : Frag) (A : Option Addr) (c n : Nat) (v : Nat → Int) : Prop where
 cap : n ≤ c
 max : c ≤ 9223372036854775807
 len : n ≤ 140737488355328
 row : 0 < n → ∃ b o, A = some ⟨b, o, none⟩ ∧ ∃ cs T fr, f b = some (.cells cs T fr) ∧ ∀ j, j < n → cs[o + j]? = some (.int .i64 (v j))
 ok : ∀ j, j < n → I64 (v j)
theorem Frag.Ir.mono {f f' : Frag} {A : Option Addr} {c n : Nat} {v : Nat → Int} (h : f.Ir A c n v) (s : f.le f') : f'.Ir A c n v := by
 refine ⟨h.cap, h.max, h.len, fun hl => ?_, h.ok⟩
 obtain ⟨b, o, e, cs, T, fr, hb, hc⟩ := h.row hl
 exact ⟨b, o, e, cs, T, fr, s _ _ hb, hc⟩
theorem Frag.Ir.at {f : Frag} {A : Option Addr} {c n : Nat} {v : Nat → Int} (h : f.Ir A c n v) (h0 : 0 < n) : ∃ b o, A = some ⟨b, o, none⟩ ∧ ∀ j, j < n → f.C1 b (o + j) (.int .i64 (v j)) := by
 obtain ⟨b, o, e, cs, T, fr, hb, hc⟩ := h.row h0
 exact ⟨b, o, e, fun j hj w0 X M I g hI => g.cellF hI (o := o) hb (hc j hj)⟩
/-- a slice of n rows of ints -/
structure Frag.Im (f : Frag) (A : Option Addr) (c n : Nat) (m : Nat → Nat) (v : Nat → Nat → Int) : Prop where
 cap : n ≤ c
 max : c ≤ 9223372036854775807
 len : n ≤ 140737488355328
 rows : 0 < n → ∃ b o, A = some ⟨b, o, none⟩ ∧ ∃ cs T fr, f b = some (.cells cs T fr) ∧ ∀ i, i < n → ∃ B k, cs[o + i]? = some (.slice B (m i) k) ∧ f.Ir B k (m i) (v i)
theorem Frag.Im.mono {f f' : Frag} {A : Option Addr} {c n : Nat} {m : Nat → Nat} {v : Nat → Nat → Int} (h : f.Im A c n m v) (s : f.le f') : f'.Im A c n m v := by
 refine ⟨h.cap, h.max, h.len, fun hl => ?_⟩
 obtain ⟨b, o, e, cs, T, fr, hb, hc⟩ := h.rows hl
 refine ⟨b, o, e, cs, T, fr, s _ _ hb, fun i hi => ?_⟩
 obtain ⟨B, k, h1, h2⟩ := hc i hi
 exact ⟨B, k, h1, h2.mono s⟩
theorem Frag.Im.rowAt {f : Frag} {A : Option Addr} {c n : Nat} {m : Nat → Nat} {v : Nat → Nat → Int} (h : f.Im A c n m v) (h0 : 0 < n) : ∃ b o, A = some ⟨b, o, none⟩ ∧ ∀ i, i < n → ∃ B k, f.C1 b (o + i) (.slice B (m i) k) ∧ f.Ir B k (m i) (v i) := by
 obtain ⟨b, o, e, cs, T, fr, hb, hc⟩ := h.rows h0
 refine ⟨b, o, e, fun i hi => ?_⟩
 obtain ⟨B, k, h1, h2⟩ := hc i hi
 exact ⟨B, k, fun w0 X M I g hI => g.cellF hI (o := o) hb h1, h2⟩
section
variable {w0 : World} {X : List Nat} {M : List Blk} {I : List Frag}
/-- a written-out row of ints in a block that the walk owns -/
theorem irM (g : G w0 X M I) {b : Nat} {T : TypeId} (l : List Int) {n : Nat} (hm : (b, T, l.map fun x : Int => Value.int .i64 x) ∈ M) (hn : l.length = n) (hx : n ≤ 140737488355328) (ok : ∀ x ∈ l, I64 x) : (heapOf g.w).Ir (some ⟨b, 0, none⟩) n n (fun j => l.getD j 0) := by
 subst hn
 refine ⟨Nat.le_refl _, by omega, hx, fun hl => ⟨b, 0, rfl, _, T, _, g.own _ hm, fun j hj => ?_⟩, fun j hj => ?_⟩
 ·show ((l.map fun x : Int => Value.int .i64 x).toArray)[0 + j]? = _
  rw [Nat.zero_add, List.getElem?_toArray, List.getElem?_map, List.getElem?_eq_getElem hj, List.getD_eq_getElem?_getD, List.getElem?_eq_getElem hj]
  rfl
 ·rw [List.getD_eq_getElem?_getD, List.getElem?_eq_getElem hj]
  exact ok _ (List.getElem_mem hj)
/-- written-out rows -/
theorem imM (g : G w0 X M I) {b : Nat} {T : TypeId} {cs : List Value} {n : Nat} {m : Nat → Nat} {v : Nat → Nat → Int} (hm : (b, T, cs) ∈ M) (hx : n ≤ 140737488355328) (h : ∀ i, i < n → ∃ B k, cs[i]? = some (.slice B (m i) k) ∧ (heapOf g.w).Ir B k (m i) (v i)) : (heapOf g.w).Im (some ⟨b, 0, none⟩) n n m v := by
 refine ⟨Nat.le_refl _, by omega, hx, fun hl => ⟨b, 0, rfl, _, T, _, g.own _ hm, fun i hi => ?_⟩⟩
 obtain ⟨B, k, h1, h2⟩ := h i hi
 refine ⟨B, k, ?_, h2⟩
 show (cs.toArray)[0 + i]? = _
 rw [Nat.zero_add, List.getElem?_toArray]
 exact h1
end
/-- a matrix that was built by append of its rows becomes part of what stays -/
theorem G.freezeV {w0 : World} {n : Nat} {m : Nat → Nat} {x : Nat → Nat → Raw} {T Ts : TypeId} {F : Frag} {R M sc : List Blk} {I : List Frag} {xs : List Value} {Ac : Option Addr} {cc : Nat} (g : G w0 [] (sc ++ (R ++ M)) (F :: I)) (hv : RowV w0.heap.size Ts 1 n xs Ac cc sc) (h : OwnOn (List.range n) (fun i => NumRow w0.heap.size T F (m i) (x i)) R xs) (h0 : 0 < n) (h3 : n ≤ 140737488355328) (h4 : ∀ i, i < n → m i ≤ 140737488355328) :
  ∃ (F' : Frag) (b : Nat) (g' : G w0 [] M (F' :: I)), Ac = some ⟨b, 0, Option.none⟩ ∧ g.w = g'.w ∧ F'.Mt (some ⟨b, 0, Option.none⟩) cc n m x ∧ F.le F' ∧ (F.Nw w0 → F'.Nw w0) := by
 rcases hv with ⟨_, _, e, _⟩ | ⟨cb, cs, rfl, rfl, hcb, hrow⟩
 ·omega
 ·have hxl : xs.length = n := by
   have := hrow.xl
   omega
  have hown' := h.next (oc' := cs) (Q' := fun i => NumRow w0.heap.size T F (m i) (x i)) (fun j hj => by
   have hj' := List.mem_range.1 hj
   have e : xs[j]? = some xs[j] := List.getElem?_eq_getElem (by omega)
   rw [e]
   exact hrow.get1 e) (fun j hj v s h => h)
  obtain ⟨g2, e2⟩ := g.as (M' := ((cb, Ts, cs) :: R) ++ M) (by simp)
  obtain ⟨F5, g3, e3, hle, hbl, hnw⟩ := G.layR ((cb, Ts, cs) :: R) g2
  refine ⟨F5, cb, g3, rfl, e2.trans e3, ?_, hle, hnw⟩
  exact hown'.mt (F' := F5) (ob := cb) (cap := cc) (Ts := Ts) hle (fun m hm => hbl m (List.mem_cons_of_mem _ hm)) (hbl (cb, Ts, cs) (List.mem_cons_self ..)) hrow.le hrow.max h3 h4
/-- a call whose result may share the part F -/
theorem G.nor_ex {w0 : World} {M : List Blk} {I : List Frag} {F H : Frag} {w1 : World} (g : G w0 [] M I) (hF : F ∈ I) (hno : NewOr F g.w w1 H) : ∃ g' : G w0 [] M (H :: I), w1 = g'.w ∧ H.over F w0 :=
 g.newor_ex (F0 := F) ⟨hno.below, hno.sub, fun k o hk => (hno.new k o hk).elim (fun h => .inl (g.fr_of hF (Frag.over_self F w0) k o h)) .inr⟩
theorem two_cases {P : Nat → Prop} (h0 : P 0) (h1 : P 1) : ∀ i, i < 2 → P i
 | 0, _ => h0
 | 1, _ => h1
/-- a written-out row of numbers in a block that the walk owns -/
theorem rwM {w0 : World} {X : List Nat} {M : List Blk} {I : List Frag} (g : G w0 X M I) {b : Nat} {T : TypeId} (l : List Tri) {n : Nat} {x : Nat → Raw} (hm : (b, T, cells3 l) ∈ M) (hl : (heapOf g.w).Tris l n x) (hx : n ≤ 140737488355328) : (heapOf g.w).Rw (some ⟨b, 0, Option.none⟩) n n x :=
 row_rw (T := T) (cs := cells3 l) ⟨Nat.le_refl _, Nat.le_trans hx (by decide), by rw [cells3_len, hl.1], by rw [List.take_of_length_le (by rw [cells3_len, hl.1]; omega)], by rw [cells3_len, hl.1]⟩ (g.own _ hm) hl hx
theorem mtM {w0 : World} {X : List Nat} {M : List Blk} {I : List Frag} (g : G w0 X M I) {b : Nat} {T : TypeId} {cs : List Value} {n : Nat} {m : Nat → Nat} {x : Nat → Nat → Raw} (hm : (b, T, cs) ∈ M) (hx : n ≤ 140737488355328) (h : ∀ i, i < n → ∃ B k, cs[i]? = some (.slice B (m i) k) ∧ (heapOf g.w).Rw B k (m i) (x i)) : (heapOf g.w).Mt (some ⟨b, 0, Option.none⟩) n n m x :=
 blk_mt (g.own _ hm) (Nat.le_refl _) (by omega) hx h
theorem tris1 {f : Frag} {p q r : Value} {x : Nat → Raw} (h : f.Rt p q r (x 0)) : f.Tris [(p, q, r)] 1 x := by
 refine ⟨rfl, fun j hj => ?_⟩
 obtain rfl : j = 0 := by omega
 exact ⟨p, q, r, rfl, h⟩
theorem tris2 {f : Frag} {p q r p' q' r' : Value} {x : Nat → Raw} (h : f.Rt p q r (x 0)) (h' : f.Rt p' q' r' (x 1)) : f.Tris [(p, q, r), (p', q', r')] 2 x := (tris1 h).snoc h'
/-- two rows of two ints -/
def m22 (x y z t : Int) : Nat → Nat → Int := fun i j => if i = 0 then (if j = 0 then x else y) else (if j = 0 then z else t)
theorem im22 {w0 : World} {X : List Nat} {M : List Blk} {I : List Frag} (g : G w0 X M I) {b b1 b2 : Nat} {T T1 T2 : TypeId} (x y z t : Int) (h : (b, T, [.slice (some ⟨b1, 0, Option.none⟩) 2 2, .slice (some ⟨b2, 0, Option.none⟩) 2 2]) ∈ M) (h1 : (b1, T1, [.int .i64 x, .int .i64 y]) ∈ M) (h2 : (b2, T2, [.int .i64 z, .int .i64 t]) ∈ M) (hx : I64 x) (hy : I64 y) (hz : I64 z) (ht : I64 t) : (heapOf g.w).Im (some ⟨b, 0, Option.none⟩) 2 2 (fun _ => 2) (m22 x y z t) := by
 refine imM g h (by decide) (two_cases ⟨_, _, rfl, ?_⟩ ⟨_, _, rfl, ?_⟩)
 ·have := irM g [x, y] (n := 2) h1 rfl (by decide) (by intro u hu; simp at hu; rcases hu with rfl | rfl <;> assumption)
  refine ⟨this.cap, this.max, this.len, fun hl => ?_, fun j hj => ?_⟩
  ·obtain ⟨b, o, e, cs, T, fr, hb, hc⟩ := this.row hl
   exact ⟨b, o, e, cs, T, fr, hb, two_cases (hc 0 (by decide)) (hc 1 (by decide))⟩
  ·exact two_cases (P := fun j => I64 (m22 x y z t 0 j)) hx hy j hj
 ·have := irM g [z, t] (n := 2) h2 rfl (by decide) (by intro u hu; simp at hu; rcases hu with rfl | rfl <;> assumption)
  refine ⟨this.cap, this.max, this.len, fun hl => ?_, fun j hj => ?_⟩
  ·obtain ⟨b, o, e, cs, T, fr, hb, hc⟩ := this.row hl
   exact ⟨b, o, e, cs, T, fr, hb, two_cases (hc 0 (by decide)) (hc 1 (by decide))⟩
  ·exact two_cases (P := fun j => I64 (m22 x y z t 1 j)) hz ht j hj
/-- a row that was appended to -/
theorem NumRow.of {lo : Nat} {T : TypeId} {F : Frag} {n c : Nat} {x : Nat → Raw} {A : Option Addr} {l : List Tri} {s : List Blk} (h : RowV lo T 3 n (cells3 l) A c s) (hl : F.Tris l n x) : NumRow lo T F n x (.slice A n c) s := ⟨A, c, l, rfl, h, hl⟩
end Go.Proofs.YthhbbnfnejjpiaaGreatDoor.GW
namespace Go.Proofs.YthhbbnfnejjpiaaGreatDoor.GW
open Go
open Go Go.RowKit
variable {F : Fence} {n : Nat} {P : Program}
/-- a word on memory that blocks without cells do not touch -/
def Calm (B : Nat) (p : World → Prop) : Prop := ∀ W W' row, p W → W.grownBy W' row → (∀ r, row = some r → B ≤ r ∧ ∃ o : Obj, W.heap[r]? = some o ∧ o.isCells = false) → p W'
theorem Calm.put {B : Nat} {p : World → Prop} (h : Calm B p) {W : World} {l : Nat} {o : Obj} (o' : Obj) (hp : p W) (hB : B ≤ l) (hl : W.heap[l]? = some o) (ho : o.isCells = false) : p (W.putObj l o') :=
 h W _ (some l) hp (grownBy_putObj' W l o') (fun r e => by cases e; exact ⟨hB, o, hl, ho⟩)
theorem Calm.alloc {B : Nat} {p : World → Prop} (h : Calm B p) {W : World} (o : Obj) (hp : p W) : p (W.alloc o) :=
 h W _ none hp (World.grownBy_alloc W o none) (fun r e => by cases e)
/-- how a round ends: always at its end -/
def roundEnds {β : Type} (B : Nat) (Ia : β → World → Prop) (s : β) (W : World) : Exit → Act → World → Prop
 | .normal, _, W' => (∀ (k : Nat) (o : Obj), B ≤ k → W.heap[k]? = some o → o.isCells = false → W'.heap[k]? = some o) ∧ Ia s W'
 | _, _, _ => False
theorem wpIn_range_state {β : Type} {g : Operand} {ps : Array Tmp} {assign body : Code} {Q : Exit → Act → World → Prop} {a : Act} {w : World}
  (hro : F.round = none) (h1 : 1 ≤ n) {gf : Nat} {lb : Array Value} (hg : a.eval g = .func (.func gf) #[] lb) (hFg : F.fn gf) (eg : ∀ args w, (callFunc gf args).run P w = .ok (.enter gf args) w)
  {encs : β → Array Value} (hps : ∀ s, (encs s).size = ps.size)
  (I0 Ie : World → Prop) (Iy Ia : β → World → Prop) (c0 : Calm w.heap.size I0) (ce : Calm w.heap.size Ie) (cy : ∀ s, Calm w.heap.size (Iy s)) (ca : ∀ s, Calm w.heap.size (Ia s)) (h0 : I0 w) (a₁ : β → Act)
  (hassign : ∀ (l : Nat) (s : β) (W : World) (K : Act → World → Prop), K (a₁ s) W →
   assign.wpIn (F.inRound l) (n - 1 - 1) P (Exit.then K (fun _ _ _ => False)) { tmps := (ps.zip (encs s)).foldl (fun t (p, v) => t.setIfInBounds p v) a.tmps, defers := [] } W)
  (hbody : ∀ (l : Nat) (s : β) (W : World), Iy s W → body.wpIn (F.inRound l) (n - 1 - 1) P (roundEnds w.heap.size Ia s W) (a₁ s) W)
  (hiter : ∀ (l D : Nat) (oL oD : Obj) (W1 : World), w.heap.size ≤ l → w.heap.size ≤ D → oL.isCells = false → oD.isCells = false → W1.heap[l]? = some oL → W1.heap[D]? = some oD → I0 W1 →
   (∀ (s : β) (W : World), Iy s W → W.heap[l]? = some oL → W.heap[D]? = some oD → YieldAt F (n - 1 - 1) P l (encs s) W fun e W' => e = .returned (.bool true) ∧ Ia s W' ∧ W'.heap[l]? = some oL ∧ W'.heap[D]? = some oD) →
   CallsIn F (n - 1) P gf (#[.func (.yield l) #[] #[]] ++ lb) W1 fun e W' => (∃ v, e = .returned v) ∧ Ie W' ∧ W'.heap[l]? = some oL ∧ W'.heap[D]? = some oD)
  (hdone : ∀ (D : Nat) (W : World), w.heap.size ≤ D → Ie W → W.heap[D]? = some (.deferred (some [])) → Q .normal { a with defers := { target := .collected D, args := #[] } :: a.defers } W) :
  (Code.rangeFunc g ps assign body).wpIn F n P Q a w := by
 refine wpIn_rangeFunc fun fn hfn => ?_
 rw [hro]
 let rc : LoopState → Loop := fun st => { state := st, pending := none, fn, tmps := a.tmps, params := ps, assign, body, defers := w.heap.size }
 let wA := w.alloc (.deferred (some []))
 let wB := wA.alloc (.loop (rc .ready))
 have sA : wA.heap.size = w.heap.size + 1 := by simp [wA]
 have sB : wB.heap.size = w.heap.size + 2 := by simp [wB, wA]
 have bL : wB.heap[w.heap.size + 1]? = some (.loop (rc .ready)) := by
  have := World.alloc_heap_new wA (.loop (rc .ready)); rwa [sA] at this
 have bD : wB.heap[w.heap.size]? = some (.deferred (some [])) := (Below.heap_alloc wA _ _ (by omega)).trans (World.alloc_heap_new w _)
 have i0 : I0 wB := c0.alloc _ (c0.alloc _ h0)
 refine ⟨w.heap.size + 1, [{ target := .collected w.heap.size, args := #[] }], wB, { target := .fn (.func gf) lb, args := #[.func (.yield (w.heap.size + 1)) #[] #[]] }, wB, gf,
  #[.func (.yield (w.heap.size + 1)) #[] #[]] ++ lb, wB, run_enterLoop_outer _ _ _ _ _, ?_, ?_, ?_, fun _ => h1, ?_⟩
 ·simp only [resolve, hg]
  simp [go_sem]
 ·intro f' hf'
  simp [Target.leads] at hf'
  subst hf'
  exact hFg
 ·simp [invoke, go_sem, eg]
 ·refine (hiter (w.heap.size + 1) w.heap.size _ _ wB (by omega) (Nat.le_refl _) rfl rfl bL bD i0 ?_).mono ?_
  ·intro s W hi hl hd
   have hlt : w.heap.size + 1 < W.heap.size := (Array.getElem?_eq_some_iff.1 hl).1
   have hy := run_yield (P := P) (args := encs s) hl (hps s)
   refine ⟨fn, _, assign, body, hy, roundIn_of_wpIn hfn (hassign _ s W _ ⟨_, run_beginRound hl rfl, ?_⟩)⟩
   have hl2 : (W.putObj (w.heap.size + 1) (.loop (rc .busy))).heap[w.heap.size + 1]? = some (.loop (rc .busy)) := World.putObj_heap_same hlt
   have hd2 : (W.putObj (w.heap.size + 1) (.loop (rc .busy))).heap[w.heap.size]? = some (.deferred (some [])) := (World.putObj_heap_other (by omega)).trans hd
   refine wpIn_mono (hbody _ s _ ((cy s).put _ hi (by omega) hl rfl)) ?_
   rintro e a3 W3 hp
   cases e with
   | normal =>
    obtain ⟨hk3, hi3⟩ := hp
    have hl3 := hk3 _ _ (by omega) hl2 rfl
    have hd3 := hk3 _ _ (Nat.le_refl _) hd2 rfl
    exact ⟨_, _, run_endRound (P := P) none hl3, rfl, (ca s).put _ hi3 (by omega) hl3 rfl, World.putObj_heap_same (Array.getElem?_eq_some_iff.1 hl3).1, (World.putObj_heap_other (by omega)).trans hd3⟩
   | ret => exact hp.elim
   | exit id => exact hp.elim
   | goto t => exact hp.elim
   | panic ch => exact hp.elim
   | outgrown => exact hp.elim
  ·rintro e W2 ⟨⟨v, rfl⟩, hi, hl, hd⟩
   exact ⟨none, _, run_endLoop (P := P) hl (by simp [rc]), hdone _ _ (Nat.le_refl _) (ce.put _ hi (by omega) hl rfl) ((World.putObj_heap_other (by omega)).trans hd)⟩
end Go.Proofs.YthhbbnfnejjpiaaGreatDoor.GW
