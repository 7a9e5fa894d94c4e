/- Plain facts and contracts of functions of the program, out of walks. Their conditions stand ahead of each. -/
import Derived.Test.YtfifcpgjcgoinaaQ1
set_option linter.unusedVariables false
set_option linter.unusedSimpArgs false
namespace Go.Proofs.Ytfifcpgjcgoinaa.NL
open Go
theorem set_zeros (pre : List Nat) (n : Nat) (x : Nat) : (pre ++ List.replicate (n + 1) 0).set pre.length x = (pre ++ [x]) ++ List.replicate n 0 := by
  rw [List.replicate_succ, List.set_append_right _ _ (Nat.le_refl _), Nat.sub_self, List.set_cons_zero, List.append_assoc]; rfl
theorem set_zeros' {pre : List Nat} {k n : Nat} (hk : pre.length = k) (hn : k < n) (x : Nat) : (pre ++ List.replicate (n - k) 0).set k x = (pre ++ [x]) ++ List.replicate (n - (k + 1)) 0 := by
  subst hk
  rw [show n - pre.length = (n - (pre.length + 1)) + 1 by omega, set_zeros]
theorem pow_split (k s : Nat) : 4294967296 ^ k * (s % 4294967296) + 4294967296 ^ (k + 1) * (s / 4294967296) = 4294967296 ^ k * s := by
  have h := Nat.mod_add_div s 4294967296
  rw [Nat.pow_succ, Nat.mul_assoc, ← Nat.mul_add, h]
theorem add_step {pre l1 l2 : List Nat} {k c : Nat} (hk : pre.length = k) (h : val pre + 4294967296 ^ k * c = val (l1.take k) + val (l2.take k)) :
    val (pre ++ [(l1.getD k 0 + l2.getD k 0 + c) % 4294967296]) + 4294967296 ^ (k + 1) * ((l1.getD k 0 + l2.getD k 0 + c) / 4294967296) = val (l1.take (k + 1)) + val (l2.take (k + 1)) := by
  rw [val_snoc, hk, val_take_getD, val_take_getD]
  have := pow_split k (l1.getD k 0 + l2.getD k 0 + c)
  rw [Nat.mul_add _ (l1.getD k 0 + l2.getD k 0), Nat.mul_add] at this
  generalize 4294967296 ^ (k + 1) * ((l1.getD k 0 + l2.getD k 0 + c) / 4294967296) = a at *
  generalize 4294967296 ^ k * ((l1.getD k 0 + l2.getD k 0 + c) % 4294967296) = b at *
  generalize 4294967296 ^ k * c = d at *
  generalize 4294967296 ^ k * l1.getD k 0 = e at *
  generalize 4294967296 ^ k * l2.getD k 0 = f at *
  omega
theorem add_end' {p a b P Q c q1 q2 : Nat} (h : p + Q * c = a + b) (b1 : a < q1) (b2 : b < q2) (p1 : q1 ≤ P) (p2 : q2 ≤ P) (hQ : P + P ≤ Q) : p = a + b ∧ c = 0 := by
  have hc : c = 0 := by
    rcases Nat.eq_zero_or_pos c with hc | hc
    · exact hc
    · have := Nat.le_mul_of_pos_right Q hc
      omega
  subst hc
  exact ⟨by omega, rfl⟩
/-- the sum is whole when all limbs are done -/
theorem add_end {pre l1 l2 : List Nat} {n c : Nat} (o1 : Ok l1) (o2 : Ok l2) (h1 : l1.length < n) (h2 : l2.length < n) (h : val pre + 4294967296 ^ n * c = val (l1.take n) + val (l2.take n)) : val pre = val l1 + val l2 ∧ c = 0 := by
  rw [val_take_all (Nat.le_of_lt h1), val_take_all (Nat.le_of_lt h2)] at h
  have b1 := val_lt o1
  have b2 := val_lt o2
  obtain ⟨m, rfl⟩ : ∃ m, n = m + 1 := ⟨n - 1, by omega⟩
  have p1 : 4294967296 ^ l1.length ≤ 4294967296 ^ m := Nat.pow_le_pow_right (by decide) (by omega)
  have p2 : 4294967296 ^ l2.length ≤ 4294967296 ^ m := Nat.pow_le_pow_right (by decide) (by omega)
  have hQ : 4294967296 ^ m + 4294967296 ^ m ≤ 4294967296 ^ (m + 1) := by
    rw [Nat.pow_succ]
    generalize 4294967296 ^ m = P
    omega
  exact add_end' h b1 b2 p1 p2 hQ
/-- what is borrowed -/
def brw (x y c : Nat) : Nat := if x < y + c then 1 else 0
theorem brw_le (x y c : Nat) : brw x y c ≤ 1 := by unfold brw; split <;> omega
theorem brw_eq (x y c : Nat) (hx : x < 4294967296) (hy : y < 4294967296) (hc : c ≤ 1) : (x + 4294967296 - y - c) % 4294967296 + y + c = x + 4294967296 * brw x y c := by unfold brw; split <;> omega
theorem sub_step {pre l1 l2 : List Nat} {k c : Nat} (o1 : Ok l1) (o2 : Ok l2) (hc : c ≤ 1) (hk : pre.length = k) (h : val pre + val (l2.take k) = val (l1.take k) + 4294967296 ^ k * c) :
    val (pre ++ [(l1.getD k 0 + 4294967296 - l2.getD k 0 - c) % 4294967296]) + val (l2.take (k + 1)) = val (l1.take (k + 1)) + 4294967296 ^ (k + 1) * brw (l1.getD k 0) (l2.getD k 0) c := by
  rw [val_snoc, hk, val_take_getD, val_take_getD]
  have e := brw_eq (l1.getD k 0) (l2.getD k 0) c (o1.getD k) (o2.getD k) hc
  have := congrArg (4294967296 ^ k * ·) e
  simp only [Nat.mul_add, ← Nat.mul_assoc] at this
  rw [Nat.pow_succ]
  omega
theorem sub_end {pre l1 l2 : List Nat} {n c : Nat} (ok : Ok pre) (hp : pre.length = n) (h1 : l1.length ≤ n) (h2 : l2.length ≤ n) (hle : val l2 ≤ val l1) (h : val pre + val (l2.take n) = val (l1.take n) + 4294967296 ^ n * c) : val pre = val l1 - val l2 ∧ c = 0 := by
  rw [val_take_all h1, val_take_all h2] at h
  have b := val_lt ok
  rw [hp] at b
  have hc : c = 0 := by
    rcases Nat.eq_zero_or_pos c with hc | hc
    · exact hc
    · have := Nat.mul_le_mul_left (4294967296 ^ n) hc
      omega
  subst hc
  exact ⟨by omega, rfl⟩
theorem val_set {l : List Nat} {k : Nat} (hk : k < l.length) (x : Nat) : val (l.set k x) + 4294967296 ^ k * l.getD k 0 = val l + 4294967296 ^ k * x := by
  induction l generalizing k with
  | nil => simp at hk
  | cons y l ih =>
    cases k with
    | zero => simp [val]; omega
    | succ k =>
      have := ih (k := k) (by simpa using hk)
      simp only [List.set_cons_succ, val, List.getD_cons_succ]
      have h2 := congrArg (4294967296 * ·) this
      simp only [Nat.mul_add, ← Nat.mul_assoc] at h2
      rw [Nat.pow_succ, Nat.mul_comm (4294967296 ^ k) 4294967296]
      omega
end Go.Proofs.Ytfifcpgjcgoinaa.NL
namespace Go.Proofs.Ytfifcpgjcgoinaa.NL
open Go
theorem limbs_prefix {l : List Nat} (h : Ok l) : l.take (limbs (val l)).length = limbs (val l) := by
  induction l with
  | nil => simp [val, limbs_zero]
  | cons x l ih =>
    by_cases h0 : val (x :: l) = 0
    · rw [h0, limbs_zero]; rfl
    · have hx := h.head
      rw [limbs_pos h0, val, show (x + 4294967296 * val l) % 4294967296 = x by omega, show (x + 4294967296 * val l) / 4294967296 = val l by omega, List.length_cons, List.take_succ_cons, ih h.tail]
end Go.Proofs.Ytfifcpgjcgoinaa.NL
namespace Go.Proofs.Ytfifcpgjcgoinaa.NL
open Go
theorem mul_carry {x y z c : Nat} (hx : x < 4294967296) (hy : y < 4294967296) (hz : z < 4294967296) (hc : c < 4294967296) : (x * y + z + c) / 4294967296 < 4294967296 := by
  have : x * y ≤ 4294967295 * 4294967295 := Nat.mul_le_mul (by omega) (by omega)
  omega
theorem mul_step {out l2 : List Nat} {k j c x V : Nat} (hj : k + j < out.length) (h : val out + 4294967296 ^ (k + j) * c = V + 4294967296 ^ k * (x * val (l2.take j))) :
    val (out.set (k + j) ((x * l2.getD j 0 + out.getD (k + j) 0 + c) % 4294967296)) + 4294967296 ^ (k + (j + 1)) * ((x * l2.getD j 0 + out.getD (k + j) 0 + c) / 4294967296) = V + 4294967296 ^ k * (x * val (l2.take (j + 1))) := by
  have s := val_set hj ((x * l2.getD j 0 + out.getD (k + j) 0 + c) % 4294967296)
  have p := pow_split (k + j) (x * l2.getD j 0 + out.getD (k + j) 0 + c)
  rw [Nat.mul_add _ (x * l2.getD j 0 + out.getD (k + j) 0), Nat.mul_add] at p
  rw [val_take_getD, Nat.mul_add x, Nat.mul_add (4294967296 ^ k), ← Nat.add_assoc k j 1]
  have e : 4294967296 ^ k * (x * (4294967296 ^ j * l2.getD j 0)) = 4294967296 ^ (k + j) * (x * l2.getD j 0) := by
    rw [Nat.pow_add]
    ac_rfl
  rw [e]
  generalize 4294967296 ^ (k + j + 1) * ((x * l2.getD j 0 + out.getD (k + j) 0 + c) / 4294967296) = a1 at *
  generalize val (out.set (k + j) ((x * l2.getD j 0 + out.getD (k + j) 0 + c) % 4294967296)) = a2 at *
  generalize 4294967296 ^ (k + j) * ((x * l2.getD j 0 + out.getD (k + j) 0 + c) % 4294967296) = a3 at *
  generalize 4294967296 ^ (k + j) * (x * l2.getD j 0) = a4 at *
  generalize 4294967296 ^ (k + j) * out.getD (k + j) 0 = a5 at *
  generalize 4294967296 ^ (k + j) * c = a6 at *
  generalize 4294967296 ^ k * (x * val (l2.take j)) = a7 at *
  omega
theorem mul_round {out l1 l2 : List Nat} {k c : Nat} (hk : k + l2.length < out.length) (hz : out.getD (k + l2.length) 0 = 0) (h : val out + 4294967296 ^ (k + l2.length) * c = val (l1.take k) * val l2 + 4294967296 ^ k * (l1.getD k 0 * val (l2.take l2.length))) :
    val (out.set (k + l2.length) c) = val (l1.take (k + 1)) * val l2 := by
  have s := val_set hk c
  rw [hz, Nat.mul_zero, Nat.add_zero] at s
  rw [s, h, val_take_getD, List.take_length, Nat.add_mul, Nat.mul_assoc]
theorem getD_set_ne {l : List Nat} {i j x : Nat} (h : i ≠ j) : (l.set i x).getD j 0 = l.getD j 0 := by
  rw [List.getD_eq_getElem?_getD, List.getD_eq_getElem?_getD, List.getElem?_set_ne h]
end Go.Proofs.Ytfifcpgjcgoinaa.NL
namespace Go.Proofs.Ytfifcpgjcgoinaa.GW
open Go
open Go.RowKit NL
/-- limbs as cells -/
def u32s (l : List Nat) : List Value := l.map fun x : Nat => .int .u32 (x : Int)
theorem u32s_len (l : List Nat) : (u32s l).length = l.length := by simp [u32s]
theorem u32s_get (l : List Nat) (j : Nat) : (u32s l)[j]? = (l[j]?).map fun x : Nat => Value.int .u32 (x : Int) := by simp [u32s]
theorem u32s_getD {l : List Nat} {j : Nat} (h : j < l.length) : (u32s l)[j]? = some (.int .u32 ((l.getD j 0 : Nat) : Int)) := by
  rw [u32s_get, List.getD_eq_getElem?_getD, List.getElem?_eq_getElem h]; rfl
theorem u32s_set (l : List Nat) (j : Nat) (x : Nat) : (u32s l).set j (.int .u32 (x : Int)) = u32s (l.set j x) := by
  unfold u32s; rw [List.map_set]
theorem u32s_zeros (n : Nat) : u32s (List.replicate n 0) = List.replicate n (.int .u32 0) := by simp [u32s]
theorem u32s_nil : u32s [] = [] := rfl
theorem u32s_append (l m : List Nat) : u32s (l ++ m) = u32s l ++ u32s m := by simp [u32s]
theorem u32s_one (l : List Nat) : ∀ u ∈ u32s l, u.oneCell' = true := by
  intro u hu
  obtain ⟨x, _, rfl⟩ := List.mem_map.1 hu
  rfl
/-- the whole of a world's memory -/
@[reducible] def heapOf (w : World) : Frag := fun k => w.heap[k]?
theorem heapOf_sub (w : World) : (heapOf w).sub w := fun _ _ h => h
/-- a single block -/
def blkF (b : Nat) (o : Obj) : Frag := fun k => if k = b then some o else none
theorem blkF_sub {b : Nat} {o : Obj} {w : World} (h : w.heap[b]? = some o) : (blkF b o).sub w := by
  intro k o' hk
  unfold blkF at hk
  split at hk
  · next e => subst e; rw [← hk]; exact h
  · cases hk
theorem blkF_at {b k : Nat} {o o' : Obj} (h : blkF b o k = some o') : k = b := by
  unfold blkF at h; split at h
  · assumption
  · cases h
/-- In part f, the slice at A reads as the limbs l. -/
def Frag.Lim (f : Frag) (A : Option Addr) (l : List Nat) : Prop :=
  0 < l.length → ∃ b o, A = some ⟨b, o, none⟩ ∧ ∃ cs T fr, f b = some (.cells cs T fr) ∧ ∀ j, j < l.length → cs[o + j]? = some (.int .u32 ((l.getD j 0 : Nat) : Int))
/-- a slice value of limbs: the address A, the capacity c -/
structure Frag.Sl (f : Frag) (A : Option Addr) (c : Nat) (l : List Nat) : Prop where
  cap : l.length ≤ c
  max : c ≤ 9223372036854775807
  len : l.length ≤ 140737488355328
  lim : f.Lim A l
  ok : Ok l
@[reducible] def SlW (w : World) (A : Option Addr) (c : Nat) (l : List Nat) : Prop := (heapOf w).Sl A c l
theorem Frag.Lim.mono {f f' : Frag} {A : Option Addr} {l : List Nat} (h : f.Lim A l) (s : ∀ k o, f k = some o → f' k = some o) : f'.Lim A l := by
  intro hl
  obtain ⟨b, o, e, cs, T, fr, hb, hc⟩ := h hl
  exact ⟨b, o, e, cs, T, fr, s _ _ hb, hc⟩
theorem Frag.Sl.mono {f f' : Frag} {A : Option Addr} {c : Nat} {l : List Nat} (h : f.Sl A c l) (s : ∀ k o, f k = some o → f' k = some o) : f'.Sl A c l :=
  ⟨h.cap, h.max, h.len, h.lim.mono s, h.ok⟩
theorem Frag.Sl.at {f : Frag} {w : World} {A : Option Addr} {c : Nat} {l : List Nat} (h : f.Sl A c l) (s : f.sub w) : SlW w A c l := h.mono s
theorem Frag.Sl.nil (f : Frag) (A : Option Addr) : f.Sl A 0 [] := ⟨Nat.le_refl _, by decide, by simp, fun h => absurd h (by simp), Ok.nil⟩
theorem Frag.Sl.nilc (f : Frag) (A : Option Addr) {c : Nat} (h : c ≤ 140737488355328) : f.Sl A c [] := ⟨Nat.zero_le _, by omega, by simp, fun h => absurd h (by simp), Ok.nil⟩
theorem getD_take {l : List Nat} {j k : Nat} (h : j < k) : (l.take k).getD j 0 = l.getD j 0 := by
  rw [List.getD_eq_getElem?_getD, List.getD_eq_getElem?_getD, List.getElem?_take_of_lt h]
theorem Frag.Sl.take {f : Frag} {A : Option Addr} {c : Nat} {l : List Nat} (h : f.Sl A c l) (k : Nat) : f.Sl A c (l.take k) := by
  refine ⟨?_, h.max, by rw [List.length_take]; exact Nat.le_trans (Nat.min_le_right _ _) h.len, ?_, h.ok.take k⟩
  · rw [List.length_take]; exact Nat.le_trans (Nat.min_le_right _ _) h.cap
  · intro hl
    rw [List.length_take] at hl
    obtain ⟨b, o, e, cs, T, fr, hb, hc⟩ := h.lim (by omega)
    refine ⟨b, o, e, cs, T, fr, hb, fun j hj => ?_⟩
    rw [List.length_take] at hj
    rw [getD_take (by omega)]
    exact hc j (by omega)
theorem Frag.Lim.cell {f : Frag} {A : Option Addr} {l : List Nat} (h : f.Lim A l) (hl : 0 < l.length) : ∃ b o, A = some ⟨b, o, none⟩ ∧ ∀ j, j < l.length → f.cell ⟨b, o + j, none⟩ = some (.int .u32 ((l.getD j 0 : Nat) : Int)) := by
  obtain ⟨b, o, e, cs, T, fr, hb, hc⟩ := h hl
  refine ⟨b, o, e, fun j hj => ?_⟩
  unfold Frag.cell
  simp only [hb]
  exact hc j hj
theorem limW_cell {w : World} {A : Option Addr} {l : List Nat} (h : (heapOf w).Lim A l) (hl : 0 < l.length) : ∃ b o, A = some ⟨b, o, none⟩ ∧ ∀ j, j < l.length → w.cell? ⟨b, o + j, none⟩ = some (.int .u32 ((l.getD j 0 : Nat) : Int)) := by
  obtain ⟨b, o, e, cs, T, fr, hb, hc⟩ := h hl
  refine ⟨b, o, e, fun j hj => ?_⟩
  have : w.heap[b]? = some (.cells cs T fr) := hb
  simp only [World.cell?, this]
  exact hc j hj
section
variable {w0 : World} {X : List Nat} {M : List Blk} {I : List Frag}
theorem G.cell_of (g : G w0 X M I) {f : Frag} (hf : f ∈ I) {A : Option Addr} {l : List Nat} (h : f.Lim A l) (hl : 0 < l.length) : ∃ b o, A = some ⟨b, o, none⟩ ∧ ∀ j, j < l.length → g.w.cell? ⟨b, o + j, none⟩ = some (.int .u32 ((l.getD j 0 : Nat) : Int)) :=
  limW_cell (h.mono (g.sub f hf)) hl
theorem G.sl (g : G w0 X M I) {f : Frag} (hf : f ∈ I) {A : Option Addr} {c : Nat} {l : List Nat} (h : f.Sl A c l) : SlW g.w A c l := h.at (g.sub f hf)
/-- the beginning of a walk whose call writes nothing that was there -/
def G.begin (w : World) : G w [] [] [heapOf w] :=
  ⟨w, Chg.refl _ w, by simp, by simp, by simp, by intro f hf; rw [List.mem_singleton.1 hf]; exact heapOf_sub w, by intro f hf k o hk; exact ⟨.inr (by simp), by simp⟩⟩
end
theorem calls_b {P : Program} {f : FuncId} {args : Array Value} {w : World} {R : Ending → World → Prop} (h : ∀ g : G w [] [] [heapOf w], Calls P f args g.w R) : Calls P f args w R := h (G.begin w)
/-- new memory: F lies in w', and nothing of it lay in w -/
structure New (w w' : World) (F : Frag) : Prop where
  below : Below w.heap.size w w'
  sub : F.sub w'
  new : ∀ k o, F k = some o → w.heap.size ≤ k
section
variable {w0 : World} {X : List Nat} {M : List Blk} {I : List Frag}
theorem G.new_ex (g : G w0 X M I) {w1 : World} {F : Frag} (h : New g.w w1 F) : ∃ g' : G w0 X M (F :: I), w1 = g'.w := g.part_ex h.below h.sub h.new
/-- at the end: a block of the call's own is handed out -/
theorem G.give (g : G w0 [] M I) {b : Nat} {T : TypeId} {cs : List Value} (h : (b, T, cs) ∈ M) : New w0 g.w (blkF b (.cells cs.toArray T (0, 0))) :=
  ⟨g.below, blkF_sub (g.own _ h), by intro k o hk; rw [blkF_at hk]; exact g.fresh h⟩
/-- at the end: nothing is handed out -/
theorem G.none (g : G w0 [] M I) : New w0 g.w (fun _ => none) := ⟨g.below, (by intro k o h; cases h), (by intro k o h; cases h)⟩
/-- at the end: what a callee has made is handed out -/
theorem G.pass (g : G w0 [] M I) {F : Frag} (h : F ∈ I) (hn : ∀ k o, F k = some o → w0.heap.size ≤ k) : New w0 g.w F := ⟨g.below, g.sub F h, hn⟩
end
theorem lim_blk {b : Nat} {T : TypeId} (l : List Nat) {fr : Nat × Nat} : (blkF b (.cells (u32s l).toArray T fr)).Lim (some ⟨b, 0, none⟩) l := by
  intro hl
  refine ⟨b, 0, rfl, (u32s l).toArray, T, fr, by simp [blkF], fun j hj => ?_⟩
  rw [Nat.zero_add, List.getElem?_toArray]
  exact u32s_getD hj
theorem sl_blk {b : Nat} {T : TypeId} {l : List Nat} {fr : Nat × Nat} {c : Nat} (h : l.length ≤ c) (hc : c ≤ 140737488355328) (hk : Ok l) : (blkF b (.cells (u32s l).toArray T fr)).Sl (some ⟨b, 0, none⟩) c l := ⟨h, by omega, by omega, lim_blk l, hk⟩
/-- What is returned is the number n, in new memory. -/
def RNat (n : Nat) (w : World) (e : Ending) (w' : World) : Prop := ∃ A c F, e = .returned (.slice A (limbs n).length c) ∧ F.Sl A c (limbs n) ∧ New w w' F
end Go.Proofs.Ytfifcpgjcgoinaa.GW
namespace Go.Proofs.Ytfifcpgjcgoinaa.GW
open Go
open Go.RowKit NL
/-- memory without one block -/
def heapBut (w : World) (b : Nat) : Frag := fun k => if k = b then none else w.heap[k]?
theorem heapBut_sub (w : World) (b : Nat) : (heapBut w b).sub w := by
  intro k o h; unfold heapBut at h; split at h
  · cases h
  · exact h
/-- the beginning of a walk whose call may write block b -/
def G.beginM (w : World) (b : Nat) (T : TypeId) (cs : List Value) (h : w.heap[b]? = some (.cells cs.toArray T (0, 0))) : G w [b] [(b, T, cs)] [heapBut w b] :=
  ⟨w, Chg.refl _ w, by intro m hm; rw [List.mem_singleton.1 hm]; exact h, by intro m hm; rw [List.mem_singleton.1 hm]; exact .inr (List.mem_singleton.2 rfl), by simp,
    by intro f hf; rw [List.mem_singleton.1 hf]; exact heapBut_sub w b,
    by
      intro f hf k o hk
      rw [List.mem_singleton.1 hf] at hk
      have hne : k ≠ b := by rintro rfl; unfold heapBut at hk; rw [if_pos rfl] at hk; cases hk
      exact ⟨.inr (by simpa using hne), by simpa using hne⟩⟩
theorem calls_m {P : Program} {f : FuncId} {args : Array Value} {w : World} {R : Ending → World → Prop} {b : Nat} {T : TypeId} {cs : List Value} (hb : w.heap[b]? = some (.cells cs.toArray T (0, 0)))
    (h : ∀ g : G w [b] [(b, T, cs)] [heapBut w b], Calls P f args g.w R) : Calls P f args w R := h (G.beginM w b T cs hb)
/-- the slice does not lie in block b -/
def Apart (A : Option Addr) (b : Nat) : Prop := ∀ a, A = some a → a.block ≠ b
theorem Frag.Sl.but {w : World} {b : Nat} {A : Option Addr} {c : Nat} {l : List Nat} (h : SlW w A c l) (hne : Apart A b) : (heapBut w b).Sl A c l := by
  refine ⟨h.cap, h.max, h.len, ?_, h.ok⟩
  intro hl
  obtain ⟨b', o, e, cs, T, fr, hb, hc⟩ := h.lim hl
  refine ⟨b', o, e, cs, T, fr, ?_, hc⟩
  unfold heapBut
  rw [if_neg (hne _ e)]; exact hb
end Go.Proofs.Ytfifcpgjcgoinaa.GW
namespace Go.Proofs.Ytfifcpgjcgoinaa.GW
open Go
open Go.RowKit NL
theorem sl_trim {f : Frag} {A : Option Addr} {c : Nat} {l : List Nat} (h : f.Sl A c l) : f.Sl A c (limbs (val l)) := by
  rw [← limbs_prefix h.ok]; exact h.take _
theorem rnat_end {w0 : World} {M : List Blk} {I : List Frag} (g : G w0 [] M I) {b : Nat} {T : TypeId} {pre : List Nat} {c v : Nat} (hm : (b, T, u32s pre) ∈ M) (hok : Ok pre) (hc : pre.length ≤ c) (hc2 : c ≤ 140737488355328) (hv : val pre = v) :
    RNat v w0 (.returned (.slice (some ⟨b, 0, none⟩) (limbs (val pre)).length c)) g.w := by
  subst hv
  exact ⟨_, c, _, rfl, sl_trim (sl_blk hc hc2 hok), g.give hm⟩
end Go.Proofs.Ytfifcpgjcgoinaa.GW
namespace Go.Proofs.Ytfifcpgjcgoinaa.GW
open Go
open Go.RowKit NL
theorem lim_cells {F : Frag} {A : Option Addr} {l : List Nat} (h : F.Lim A l) (hl : 0 < l.length) : ∃ b o, A = some ⟨b, o, none⟩ ∧ ∀ j, j < l.length → ∀ (w0 : World) (X : List Nat) (M : List Blk) (I : List Frag) (g : G w0 X M I), F ∈ I → g.w.cell? ⟨b, o + j, none⟩ = some (.int .u32 ((l.getD j 0 : Nat) : Int)) := by
  obtain ⟨b, o, e, hc⟩ := h.cell hl
  exact ⟨b, o, e, fun j hj w0 X M I g hf => g.frag_cell hf (hc j hj)⟩
end Go.Proofs.Ytfifcpgjcgoinaa.GW
