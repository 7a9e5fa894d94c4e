/- Plain facts and contracts of functions of the program, out of walks. Their conditions stand ahead of each. -/
import Derived.Test.YtfifcpgjcgoinaaQ12
set_option linter.unusedVariables false
set_option linter.unusedSimpArgs false
namespace Go.Proofs.Ytfifcpgjcgoinaa.GW
open Go
open Go.RowKit NL
theorem G.perm {w0 : World} {X : List Nat} {M M' : List Blk} {I : List Frag} (g : G w0 X M I) (h : M.Perm M') : ∃ g' : G w0 X M' I, g.w = g'.w :=
  ⟨⟨g.w, g.chg, fun m hm => g.own m (h.mem_iff.2 hm), fun m hm => g.may m (h.mem_iff.2 hm), (h.map _).nodup_iff.1 g.dist, g.sub, fun f hf k o hk => ⟨(g.keep f hf k o hk).1, fun hm => (g.keep f hf k o hk).2 ((h.map _).mem_iff.2 hm)⟩⟩, rfl⟩
theorem Row.get {T : TypeId} {n cap : Nat} {xs : List Nat} {cs : List Value} (h : Row T 1 n (u32s xs) cap cs) (hn : xs.length = n) {j : Nat} (hj : j < n) : cs[j]? = some (.int .u32 ((xs.getD j 0 : Nat) : Int)) := by
  have := u32s_getD (l := xs) (j := j) (by omega)
  rw [← h.take, List.getElem?_take_of_lt (by omega)] at this
  exact this
theorem Row.set {T : TypeId} {n cap : Nat} {xs : List Nat} {cs : List Value} (h : Row T 1 n (u32s xs) cap cs) {j x : Nat} (hj : j < n) : Row T 1 n (u32s (xs.set j x)) cap (cs.set j (.int .u32 (x : Int))) := by
  refine ⟨h.le, h.max, by rw [List.length_set]; exact h.len, ?_, ?_⟩
  · rw [List.take_set, h.take, u32s_set]
  · rw [u32s_len, List.length_set, ← u32s_len]; exact h.xl
theorem ten_set {pre xs : List Nat} {j x : Nat} (hp : pre.length = j) (hj : j < xs.length) : (pre ++ xs.drop j).set j x = (pre ++ [x]) ++ xs.drop (j + 1) := by
  subst hp
  rw [List.set_append_right _ _ (Nat.le_refl _), Nat.sub_self, List.drop_eq_getElem_cons hj, List.set_cons_zero, List.append_assoc]
  rfl
theorem ten_get {pre xs : List Nat} {j : Nat} (hp : pre.length = j) : (pre ++ xs.drop j).getD j 0 = xs.getD j 0 := by
  subst hp
  rw [List.getD_eq_getElem?_getD, List.getElem?_append_right (Nat.le_refl _), Nat.sub_self, List.getElem?_drop, Nat.add_zero, ← List.getD_eq_getElem?_getD]
end Go.Proofs.Ytfifcpgjcgoinaa.GW
namespace Go.Proofs.Ytfifcpgjcgoinaa.NL
open Go
/-- the number of the first k digits -/
def dv (l : List Nat) (k : Nat) : Nat := dval ((l.take k).map (· - 48))
theorem dv_zero (l : List Nat) : dv l 0 = 0 := rfl
theorem dv_succ {l : List Nat} {k : Nat} (h : k < l.length) : dv l (k + 1) = 10 * dv l k + (l.getD k 0 - 48) := by
  unfold dv
  rw [take_succ h, List.map_append, List.map_cons, List.map_nil, dval_snoc, List.getD_eq_getElem?_getD, List.getElem?_eq_getElem h]
  rfl
theorem dv_lt {l : List Nat} : ∀ {k : Nat}, k ≤ l.length → (∀ j, j < k → l.getD j 0 ≤ 57) → dv l k < 10 ^ k := by
  intro k
  induction k with
  | zero => intro _ _; rw [dv_zero]; decide
  | succ k ih =>
    intro h hd
    rw [dv_succ (by omega), Nat.pow_succ]
    have := ih (by omega) (fun j hj => hd j (by omega))
    have := hd k (by omega)
    omega
/-- ten times a number, limb by limb -/
structure Ten (xs : List Nat) (d j c : Nat) (pre : List Nat) : Prop where
  len : pre.length = j
  ok : Ok pre
  lt : c < 4294967296
  eq : val pre + 4294967296 ^ j * c = 10 * val (xs.take j) + d
theorem Ten.start {xs : List Nat} {d : Nat} (h : d < 4294967296) : Ten xs d 0 d [] := ⟨rfl, Ok.nil, h, by simp [val]⟩
theorem Ten.step {xs : List Nat} {d j c' : Nat} {pre : List Nat} (h : Ten xs d j c' pre) (ho : Ok xs) : Ten xs d (j + 1) ((xs.getD j 0 * 10 + 0 + c') / 4294967296) (pre ++ [(xs.getD j 0 * 10 + 0 + c') % 4294967296]) := by
  have hx := ho.getD j
  have hc := h.lt
  refine ⟨by rw [List.length_append, h.len]; rfl, h.ok.append (Ok.cons (Nat.mod_lt _ (by decide)) Ok.nil), by omega, ?_⟩
  rw [val_snoc, h.len, val_take_getD]
  have p := pow_split j (xs.getD j 0 * 10 + 0 + c')
  have e := h.eq
  rw [Nat.mul_add _ (xs.getD j 0 * 10 + 0), Nat.add_zero, Nat.mul_comm (xs.getD j 0) 10, Nat.mul_left_comm] at p
  rw [Nat.add_zero, Nat.mul_comm (xs.getD j 0) 10]
  generalize 4294967296 ^ j * ((10 * xs.getD j 0 + c') % 4294967296) = a1 at *
  generalize 4294967296 ^ (j + 1) * ((10 * xs.getD j 0 + c') / 4294967296) = a2 at *
  generalize 4294967296 ^ j * c' = a3 at *
  generalize 4294967296 ^ j * xs.getD j 0 = a4 at *
  omega
theorem Ten.more {N d c : Nat} {pre : List Nat} (h : Ten (limbs N) d (limbs N).length c pre) (hc : c ≠ 0) : pre ++ [c] = limbs (10 * N + d) := by
  have e := h.eq
  rw [List.take_length, val_limbs] at e
  have hv : val (pre ++ [c]) = 10 * N + d := by rw [val_snoc, h.len]; exact e
  rw [← hv, limbs_val (h.ok.append (Ok.cons h.lt Ok.nil)) ?_]
  intro k hk
  rw [List.length_append, List.length_singleton] at hk
  rw [List.getD_eq_getElem?_getD, List.getElem?_append_right (by omega), show k - pre.length = 0 by omega]
  exact hc
theorem Ten.same {N d : Nat} {pre : List Nat} (h : Ten (limbs N) d (limbs N).length 0 pre) : pre = limbs (10 * N + d) := by
  have e := h.eq
  rw [List.take_length, val_limbs, Nat.mul_zero, Nat.add_zero] at e
  have h1 := limbs_prefix h.ok
  rw [e] at h1
  have h2 := limbs_len_mono (m := N) (n := 10 * N + d) (by omega)
  rw [← h1, List.take_of_length_le (by rw [h.len]; exact h2)]
end Go.Proofs.Ytfifcpgjcgoinaa.NL
