/- Plain facts and contracts of functions of the program, out of walks. Their conditions stand ahead of each. -/
import Derived.Test.YtfifcpgjcgoinaaQ2
import Derived.Test.YtfifcpgjcgoinaaQ9
import Derived.Test.YtfifcpgjcgoinaaQ10
import Derived.Test.YtfifcpgjcgoinaaQ11
import Derived.Laws.CopyOwn
set_option linter.unusedVariables false
set_option linter.unusedSimpArgs false
namespace Go.Proofs.Ytfifcpgjcgoinaa.GW
open Go
open Go.RowKit NL
section
variable {w0 : World} {X : List Nat} {M : List Blk} {I : List Frag}
theorem G.setRow_ex (g : G w0 X M I) (n : Nat) {b : Nat} {T : TypeId} {cs : List Value} (hn : M[n]? = some (b, T, cs)) (cs' : List Value) :
    ∃ g' : G w0 X (M.set n (b, T, cs')) I, g.w.setRow b cs'.toArray = g'.w := by
  have hm := g.own _ (List.mem_of_getElem? hn)
  refine ⟨g.turn n hn cs' (g.w.setRow b cs'.toArray) ⟨g.chg.os, g.chg.tape, g.chg.output, by rw [setRow_size]; exact g.chg.size, fun k hk hx => ?_⟩ (setRow_heap _ _ _ _ _ _ hm) (fun k _ hne => setRow_other _ _ _ _ hne), rfl⟩
  rw [setRow_other _ _ _ _ (by
    rintro rfl
    rcases g.may _ (List.mem_of_getElem? hn) with h | h
    · simp only at h; omega
    · exact hx h)]
  exact g.chg.block k hk hx
theorem wpList_copy_g {P : Program} {ops : Array Oper} {rest : List Oper} {o : Oper} {a : Act} {Q : Exit → Act → World → Prop} (hgd : o.guard = none) (d s : Operand) (dT sT : TypeId)
    (ho : o.op = .call { callee := .builtin .copy, args := #[d, s], argTypes := #[dT, sT] }) (elem : TypeId) (hu : P.underlying dT = some (.slice elem)) (hsz : (P.info? elem).map (·.size) = some 1)
    (dp sp : Option Addr) (dLen dCap sLen sCap : Nat) (hd : a.eval d = .slice dp dLen dCap) (hs : a.eval s = .slice sp sLen sCap)
    (g : G w0 X M I) (n : Nat) {b : Nat} {T : TypeId} {cur : List Value} (hM : M[n]? = some (b, T, cur)) (off : Nat) (cs : List Value) (hn : cs.length = Nat.min sLen dLen)
    (hpos : 0 < cs.length → dp = some ⟨b, off, none⟩ ∧ ∃ ad, sp = some ad ∧ ∀ j v, cs[j]? = some v → g.w.cell? (ad.add j) = some v)
    (hfit : off + cs.length ≤ cur.length) (h1 : ∀ v ∈ cs, v.oneCell' = true)
    (h : ∀ g' : G w0 X (M.set n (b, T, splice cur off cs)) I, wpList P ops Q rest (a.put o.dst (goInt cs.length)) g'.w) :
    wpList P ops Q (o :: rest) a g.w := by
  by_cases h0 : cs.length = 0
  · obtain rfl : cs = [] := List.eq_nil_of_length_eq_zero h0
    refine wpList_copy_nothing hgd d s dT sT ho elem hu hsz dp sp dLen dCap sLen sCap hd hs (by simpa using hn.symm) ?_
    have e : M.set n (b, T, splice cur off []) = M := by
      rw [show splice cur off [] = cur by simp [splice]]
      have hl : n < M.length := (List.getElem?_eq_some_iff.1 hM).1
      have hv : M[n] = (b, T, cur) := (List.getElem?_eq_some_iff.1 hM).2
      rw [← hv]
      exact List.set_getElem_self hl
    obtain ⟨g2, e2⟩ := g.as e.symm
    have := h g2
    rw [← e2] at this
    exact this
  · obtain ⟨rfl, ad, rfl, hsrc⟩ := hpos (by omega)
    have hg := g.own _ (List.mem_of_getElem? hM)
    refine wpList_copy_own hgd d s dT sT ho elem hu hsz b off dLen dCap ad sLen sCap hd hs cur.toArray T hg cs hn hsrc (by simpa using hfit) h1 ?_
    obtain ⟨g', e⟩ := g.setRow_ex n hM (splice cur off cs)
    have := h g'
    rw [← e] at this
    exact this
end
end Go.Proofs.Ytfifcpgjcgoinaa.GW
namespace Go.Proofs.Ytfifcpgjcgoinaa.NL
open Go
theorem drop_set_same (l : List Nat) (o i x : Nat) : (l.set (o + i) x).drop o = (l.drop o).set i x := by
  rw [List.drop_set]
  rw [if_neg (by omega), show o + i - o = i by omega]
theorem take_set_same (l : List Nat) (i x : Nat) : (l.set i x).take i = l.take i := by
  rw [List.take_set_of_le (Nat.le_refl _)]
theorem getD_drop (l : List Nat) (o i : Nat) : (l.drop o).getD i 0 = l.getD (o + i) 0 := by
  rw [List.getD_eq_getElem?_getD, List.getD_eq_getElem?_getD, List.getElem?_drop]
theorem getD_set_eq {l : List Nat} {i x : Nat} (h : i < l.length) : (l.set i x).getD i 0 = x := by
  rw [List.getD_eq_getElem?_getD, List.getElem?_set_self h]; rfl
/-- what 'take' has done after i limbs -/
structure Tk (out d : List Nat) (o t i c1 c2 : Nat) (out' : List Nat) : Prop where
  len : out'.length = out.length
  ok : Ok out'
  off : ∀ j, (j < o ∨ o + i ≤ j) → out'.getD j 0 = out.getD j 0
  hc1 : c1 = val (d.take i) * t / 4294967296 ^ i
  hc2 : c2 ≤ 1
  eq : val ((out'.drop o).take i) + val (d.take i) * t = val ((out.drop o).take i) + 4294967296 ^ i * (c1 + c2)
theorem Tk.start {out d : List Nat} {o t : Nat} (h : Ok out) : Tk out d o t 0 0 0 out :=
  ⟨rfl, h, fun _ _ => rfl, by simp [val], by omega, by simp [val]⟩
theorem Tk.carry {out d : List Nat} {o t i c1 c2 : Nat} {out' : List Nat} (h : Tk out d o t i c1 c2 out') (hd : Ok d) (ht : t < 4294967296) : c1 < 4294967296 := by
  rw [h.hc1]
  have b := val_lt (hd.take i)
  have : 4294967296 ^ (d.take i).length ≤ 4294967296 ^ i := Nat.pow_le_pow_right (by decide) (by rw [List.length_take]; omega)
  apply Nat.div_lt_of_lt_mul
  have h1 : val (d.take i) < 4294967296 ^ i := by omega
  rcases Nat.eq_zero_or_pos t with h0 | h0
  · subst h0
    have := Nat.pow_pos (n := i) (show 0 < 4294967296 by decide)
    rw [Nat.mul_zero]
    omega
  · calc val (d.take i) * t < 4294967296 ^ i * t := Nat.mul_lt_mul_of_pos_right h1 h0
      _ ≤ 4294967296 ^ i * 4294967296 := Nat.mul_le_mul_left _ (by omega)
theorem Tk.step {out d : List Nat} {o t i c1 c2 : Nat} {out' : List Nat} (h : Tk out d o t i c1 c2 out') (hd : Ok d) (ht : t < 4294967296) (hi : o + i < out.length) :
    Tk out d o t (i + 1) ((d.getD i 0 * t + 0 + c1) / 4294967296) (brw (out.getD (o + i) 0) ((d.getD i 0 * t + 0 + c1) % 4294967296) c2)
      (out'.set (o + i) ((out.getD (o + i) 0 + 4294967296 - (d.getD i 0 * t + 0 + c1) % 4294967296 - c2) % 4294967296)) := by
  have hx : out.getD (o + i) 0 < 4294967296 := by rw [← h.off _ (.inr (Nat.le_refl _))]; exact h.ok.getD _
  have hm : (d.getD i 0 * t + 0 + c1) % 4294967296 < 4294967296 := Nat.mod_lt _ (by decide)
  have hb := brw_eq (out.getD (o + i) 0) ((d.getD i 0 * t + 0 + c1) % 4294967296) c2 hx hm h.hc2
  have hr : (out.getD (o + i) 0 + 4294967296 - (d.getD i 0 * t + 0 + c1) % 4294967296 - c2) % 4294967296 < 4294967296 := Nat.mod_lt _ (by decide)
  have hmd := Nat.mod_add_div (d.getD i 0 * t + 0 + c1) 4294967296
  have hc1 := h.hc1
  have heq := h.eq
  have hl := h.len
  refine ⟨by rw [List.length_set]; exact h.len, h.ok.set _ hr, ?_, ?_, brw_le _ _ _, ?_⟩
  · intro j hj
    rw [getD_set_ne (by omega)]
    exact h.off j (by omega)
  · rw [hc1, val_take_getD, Nat.pow_succ, ← Nat.div_div_eq_div_mul, Nat.add_mul, Nat.mul_assoc, Nat.add_mul_div_left _ _ (Nat.pow_pos (by decide)), Nat.add_zero, Nat.add_comm]
  · rw [drop_set_same, val_take_getD, take_set_same, getD_set_eq (by rw [List.length_drop]; omega), val_take_getD d, val_take_getD (out.drop o), getD_drop]
    generalize (out.getD (o + i) 0 + 4294967296 - (d.getD i 0 * t + 0 + c1) % 4294967296 - c2) % 4294967296 = r at *
    generalize brw (out.getD (o + i) 0) ((d.getD i 0 * t + 0 + c1) % 4294967296) c2 = c2' at *
    generalize (d.getD i 0 * t + 0 + c1) % 4294967296 = m at *
    generalize (d.getD i 0 * t + 0 + c1) / 4294967296 = c1' at *
    generalize out.getD (o + i) 0 = x at *
    have key : c1 + c2 + r + d.getD i 0 * t = x + 4294967296 * (c1' + c2') := by omega
    have k2 := congrArg (4294967296 ^ i * ·) key
    simp only [Nat.mul_add] at k2
    rw [Nat.add_mul, Nat.mul_assoc, Nat.pow_succ, Nat.mul_assoc]
    simp only [Nat.mul_add] at heq ⊢
    omega
/-- the end of 'take' -/
theorem Tk.stop {out d : List Nat} {o t k c1 c2 : Nat} {out' : List Nat} (h : Tk out d o t k c1 c2 out') (hd : Ok d) (ht : t < 4294967296) (hk : d.length < k) (ho : Ok out) :
    (c2 = 0 ∧ val d * t ≤ val ((out.drop o).take k) ∧ val ((out'.drop o).take k) = val ((out.drop o).take k) - val d * t) ∨ (c2 = 1 ∧ val ((out.drop o).take k) < val d * t) := by
  have hc1 := h.hc1
  have heq := h.eq
  have hc2 := h.hc2
  rw [val_take_all (l := d) (k := k) (by omega)] at hc1 heq
  have b := val_lt hd
  have hDt : val d * t < 4294967296 ^ k := by
    have h1 : val d * t ≤ val d * 4294967296 := Nat.mul_le_mul_left _ (by omega)
    have h2 : val d * 4294967296 < 4294967296 ^ d.length * 4294967296 := Nat.mul_lt_mul_of_pos_right b (by decide)
    rw [← Nat.pow_succ] at h2
    have h3 : 4294967296 ^ (d.length + 1) ≤ 4294967296 ^ k := Nat.pow_le_pow_right (by decide) (by omega)
    omega
  rw [Nat.div_eq_of_lt hDt] at hc1
  subst hc1
  have hp : val ((out'.drop o).take k) < 4294967296 ^ k := by
    have := val_lt ((h.ok.drop o).take k)
    have h3 : 4294967296 ^ ((out'.drop o).take k).length ≤ 4294967296 ^ k := Nat.pow_le_pow_right (by decide) (by rw [List.length_take]; omega)
    omega
  rw [Nat.zero_add] at heq
  have : c2 = 0 ∨ c2 = 1 := by omega
  rcases this with rfl | rfl
  · left; refine ⟨rfl, by omega, by omega⟩
  · right; refine ⟨rfl, by omega⟩
theorem ext_getD {l m : List Nat} (hl : l.length = m.length) (h : ∀ j, l.getD j 0 = m.getD j 0) : l = m := by
  apply List.ext_getElem hl
  intro j h1 h2
  have := h j
  rwa [List.getD_eq_getElem?_getD, List.getD_eq_getElem?_getD, List.getElem?_eq_getElem h1, List.getElem?_eq_getElem h2] at this
/-- laid back -/
theorem lay_back {out out' : List Nat} {o k : Nat} (hl : out'.length = out.length) (hk : o + k ≤ out.length) (h : ∀ j, (j < o ∨ o + k ≤ j) → out'.getD j 0 = out.getD j 0) :
    out'.take o ++ ((out.drop o).take k ++ out'.drop (o + k)) = out := by
  have e1 : out'.take o = out.take o := by
    apply ext_getD (by simp [hl])
    intro j
    rcases Nat.lt_or_ge j o with hj | hj
    · rw [List.getD_eq_getElem?_getD, List.getD_eq_getElem?_getD, List.getElem?_take_of_lt hj, List.getElem?_take_of_lt hj, ← List.getD_eq_getElem?_getD, ← List.getD_eq_getElem?_getD]
      exact h j (.inl hj)
    · rw [List.getD_eq_getElem?_getD, List.getD_eq_getElem?_getD, List.getElem?_eq_none (by simp; omega), List.getElem?_eq_none (by simp; omega)]
  have e2 : out'.drop (o + k) = out.drop (o + k) := by
    apply ext_getD (by simp [hl])
    intro j
    rw [getD_drop, getD_drop]
    exact h _ (.inr (by omega))
  rw [e1, e2, ← List.drop_drop, List.take_append_drop, List.take_append_drop]
/-- long division: j limbs of the quotient are still to be found -/
structure Dv (V D n m j : Nat) (r q : List Nat) : Prop where
  rlen : r.length = n + m
  rok : Ok r
  qlen : q.length = m
  qok : Ok q
  qz : ∀ i, i < j → q.getD i 0 = 0
  eq : val r + val q * D = V
  lt : val (r.drop j) < D
theorem Dv.start {V D n m : Nat} {r : List Nat} (h1 : r.length = n + m) (h2 : Ok r) (h3 : val r = V) (h4 : V < 4294967296 ^ m * D) : Dv V D n m m r (List.replicate m 0) :=
  ⟨h1, h2, by simp, Ok.zeros _, fun i _ => by simp [List.getElem?_replicate]; split <;> rfl, by rw [val_zeros]; omega, by
    rw [← val_div r h2, h3]
    exact Nat.div_lt_of_lt_mul h4⟩
/-- the limbs that are divided -/
theorem Dv.seg {V D n m j : Nat} {r q : List Nat} (h : Dv V D n m (j + 1) r q) (hD : D ≤ 4294967296 ^ n) :
    val ((r.drop j).take (n + 1)) = val (r.drop j) ∧ val (r.drop j) < 4294967296 * D ∧ val (r.drop (j + (n + 1))) = 0 := by
  have e := val_drop_getD r j
  have hl := h.lt
  have hx := h.rok.getD j
  have h1 : val (r.drop j) < 4294967296 * D := by omega
  have h2 : 4294967296 * D ≤ 4294967296 ^ (n + 1) := by
    rw [Nat.pow_succ, Nat.mul_comm]; exact Nat.mul_le_mul_right _ hD
  refine ⟨?_, h1, ?_⟩
  · rw [← val_mod _ (h.rok.drop j), Nat.mod_eq_of_lt (by omega)]
  · rw [← List.drop_drop, ← val_div _ (h.rok.drop j), Nat.div_eq_of_lt (by omega)]
/-- the guess from the two highest limbs is not too small -/
theorem Dv.guess {V n m j : Nat} {r q d : List Nat} (h : Dv V (val d) (n + 1) m (j + 1) r q) (hd : Ok d) (hn : d.length = n + 1) (htop : 0 < d.getD n 0) :
    val (r.drop j) / val d ≤ (r.getD (j + (n + 1)) 0 * 4294967296 + r.getD (j + n) 0) / d.getD n 0 ∧ val (r.drop j) / val d < 4294967296 := by
  have hD : val d ≤ 4294967296 ^ (n + 1) := by have := val_lt hd; rw [hn] at this; omega
  obtain ⟨e1, e2, e3⟩ := h.seg hD
  have hd1 : 4294967296 ^ n * d.getD n 0 ≤ val d := by
    have := val_split d n (by omega)
    rw [val_drop_getD] at this
    have h2 : 4294967296 ^ n * d.getD n 0 ≤ 4294967296 ^ n * (d.getD n 0 + 4294967296 * val (d.drop (n + 1))) := Nat.mul_le_mul_left _ (by omega)
    omega
  have hdp : 0 < val d := Nat.lt_of_lt_of_le (Nat.mul_pos (Nat.pow_pos (by decide)) htop) hd1
  refine ⟨guess_ge (R := val (r.drop j)) htop hd1 ?_ (Nat.div_mul_le_self _ _), quot_lt e2⟩
  have s := val_append ((r.drop j).take n) ((r.drop j).drop n)
  rw [List.take_append_drop] at s
  rw [List.drop_drop, val_drop_getD r (j + n), val_drop_getD r (j + n + 1), show j + n + 1 + 1 = j + (n + 1 + 1) by omega, e3] at s
  have b := val_lt ((h.rok.drop j).take n)
  have hlen : 4294967296 ^ ((r.drop j).take n).length ≤ 4294967296 ^ n := Nat.pow_le_pow_right (by decide) (by rw [List.length_take]; omega)
  have hlen2 : ((r.drop j).take n).length = n ∨ val ((r.drop j).drop n) = 0 := by
    rcases Nat.lt_or_ge (r.drop j).length n with hh | hh
    · right; rw [List.drop_of_length_le (by omega)]; rfl
    · left; rw [List.length_take]; omega
  rw [show j + (n + 1) = j + n + 1 by omega]
  rcases hlen2 with hh | hh
  · rw [hh] at s b
    have : 4294967296 ^ n * (r.getD (j + n) 0 + 4294967296 * (r.getD (j + n + 1) 0 + 4294967296 * 0)) = 4294967296 ^ n * (r.getD (j + n + 1) 0 * 4294967296 + r.getD (j + n) 0) := by congr 1; omega
    rw [s, this, Nat.mul_add (4294967296 ^ n) (r.getD (j + n + 1) 0 * 4294967296 + r.getD (j + n) 0) 1, Nat.mul_one]
    omega
  · rw [List.drop_drop, val_drop_getD, val_drop_getD r (j + n + 1), show j + n + 1 + 1 = j + (n + 1 + 1) by omega, e3] at hh
    rw [hh, Nat.mul_zero] at s
    have h5 : 4294967296 ^ n * 1 ≤ 4294967296 ^ n * (r.getD (j + n + 1) 0 * 4294967296 + r.getD (j + n) 0 + 1) := Nat.mul_le_mul_left _ (by omega)
    omega
theorem Dv.next {V D n m j : Nat} {r q r' : List Nat} {x : Nat} (h : Dv V D n m (j + 1) r q) (hD : D ≤ 4294967296 ^ n) (hj : j < m) (hx : x < 4294967296) (hxe : x = val (r.drop j) / D) (hDp : 0 < D)
    (hl : r'.length = r.length) (hok : Ok r') (ho : ∀ i, (i < j ∨ j + (n + 1) ≤ i) → r'.getD i 0 = r.getD i 0) (hv : val ((r'.drop j).take (n + 1)) = val ((r.drop j).take (n + 1)) - D * x) :
    Dv V D n m j r' (q.set j x) := by
  obtain ⟨e1, e2, e3⟩ := h.seg hD
  have hrl := h.rlen
  have hql := h.qlen
  have hmx : D * x ≤ val (r.drop j) := by rw [hxe]; exact Nat.mul_div_le _ _
  have hmod : val (r.drop j) - D * x < D := by
    have := Nat.mod_lt (val (r.drop j)) hDp
    have h2 := Nat.div_add_mod (val (r.drop j)) D
    rw [← hxe] at h2
    omega
  have ed : r'.drop (j + (n + 1)) = r.drop (j + (n + 1)) := by
    apply ext_getD (by simp [hl])
    intro i
    rw [getD_drop, getD_drop]
    exact ho _ (.inr (by omega))
  have et : r'.take j = r.take j := by
    apply ext_getD (by simp [hl])
    intro i
    rcases Nat.lt_or_ge i j with hi | hi
    · rw [List.getD_eq_getElem?_getD, List.getD_eq_getElem?_getD, List.getElem?_take_of_lt hi, List.getElem?_take_of_lt hi, ← List.getD_eq_getElem?_getD, ← List.getD_eq_getElem?_getD]
      exact ho i (.inl hi)
    · rw [List.getD_eq_getElem?_getD, List.getD_eq_getElem?_getD, List.getElem?_eq_none (by simp; omega), List.getElem?_eq_none (by simp; omega)]
  have ev : val (r'.drop j) = val (r.drop j) - D * x := by
    have s := val_append ((r'.drop j).take (n + 1)) ((r'.drop j).drop (n + 1))
    rw [List.take_append_drop, List.drop_drop, ed, e3, hv, e1] at s
    omega
  refine ⟨by omega, hok, by rw [List.length_set]; exact h.qlen, h.qok.set _ hx, ?_, ?_, by omega⟩
  · intro i hi
    rw [getD_set_ne (by omega)]
    exact h.qz i (by omega)
  · have heq := h.eq
    have hq := val_set' (out := q) (i := j) (by omega) x
    rw [h.qz j (by omega), Nat.mul_zero, Nat.add_zero] at hq
    rw [hq]
    have s1 := val_split r j (by omega)
    have s2 := val_split r' j (by omega)
    rw [et, ev, Nat.mul_sub] at s2
    have h6 : 4294967296 ^ j * (D * x) ≤ 4294967296 ^ j * val (r.drop j) := Nat.mul_le_mul_left _ hmx
    rw [Nat.add_mul, Nat.mul_assoc, Nat.mul_comm x D]
    omega
theorem Dv.stop {a b u n m : Nat} {r q : List Nat} (h : Dv (a * 2 ^ u) (b * 2 ^ u) n m 0 r q) (hb : 0 < b) : val q = a / b ∧ val r = a % b * 2 ^ u := by
  have heq := h.eq
  have hlt := h.lt
  rw [List.drop_zero] at hlt
  have hp := Nat.two_pow_pos u
  have hbp : 0 < b * 2 ^ u := Nat.mul_pos hb hp
  have e1 : a * 2 ^ u / (b * 2 ^ u) = val q := by
    rw [← heq, Nat.mul_comm (val q), Nat.add_mul_div_left _ _ hbp, Nat.div_eq_of_lt hlt, Nat.zero_add]
  have e2 : a * 2 ^ u % (b * 2 ^ u) = val r := by
    rw [← heq, Nat.mul_comm (val q), Nat.add_mul_mod_self_left, Nat.mod_eq_of_lt hlt]
  rw [Nat.mul_div_mul_right _ _ hp] at e1
  rw [Nat.mul_mod_mul_right] at e2
  exact ⟨e1.symm, e2.symm⟩
/-- the shift that makes the highest bit 1 -/
theorem norm_up {b n : Nat} (hb : b ≠ 0) (hn : (limbs b).length = n + 1) : ∃ u, u = 32 - nb ((limbs b).getD n 0) ∧ u < 32 ∧ (limbs (b * 2 ^ u)).length = n + 1 ∧ 2 ^ (32 * (n + 1) - 1) ≤ b * 2 ^ u := by
  have h1 := nb_top hn
  have ht := trim_limbs b n hn
  have h2 := nb_pos ht
  have h3 : nb ((limbs b).getD n 0) ≤ 32 := (nb_le _ _).2 (by have := (ok_limbs b).getD n; omega)
  refine ⟨_, rfl, by omega, ?_, ?_⟩
  · have hlt : b * 2 ^ (32 - nb ((limbs b).getD n 0)) < 4294967296 ^ (n + 1) := by
      have := nb_lt b
      rw [pow32]
      have h4 : 2 ^ (32 * (n + 1)) = 2 ^ nb b * 2 ^ (32 - nb ((limbs b).getD n 0)) := by rw [← Nat.pow_add]; congr 1; omega
      rw [h4]
      exact Nat.mul_lt_mul_of_pos_right this (Nat.two_pow_pos _)
    have l1 := (limbs_len (b * 2 ^ (32 - nb ((limbs b).getD n 0))) (n + 1)).2 hlt
    have l2 := limbs_len_mono (m := b) (n := b * 2 ^ (32 - nb ((limbs b).getD n 0))) (Nat.le_mul_of_pos_right _ (Nat.two_pow_pos _))
    omega
  · have := nb_ge hb
    have h4 : 2 ^ (32 * (n + 1) - 1) = 2 ^ (nb b - 1) * 2 ^ (32 - nb ((limbs b).getD n 0)) := by rw [← Nat.pow_add]; congr 1; omega
    rw [h4]
    exact Nat.mul_le_mul_right _ this
theorem norm_lt {a b u n m : Nat} (hu : u < 32) (hD : 2 ^ (32 * (n + 1) - 1) ≤ b * 2 ^ u) (hm : (limbs a).length + 1 = n + 1 + m) : a * 2 ^ u < 4294967296 ^ m * (b * 2 ^ u) := by
  have h1 := (limbs_len a _).1 (Nat.le_refl _)
  have h2 : a * 2 ^ u < 4294967296 ^ (limbs a).length * 2 ^ u := Nat.mul_lt_mul_of_pos_right h1 (Nat.two_pow_pos u)
  have h3 : 4294967296 ^ (limbs a).length * 2 ^ u ≤ 4294967296 ^ m * 2 ^ (32 * (n + 1) - 1) := by
    rw [pow32, pow32, ← Nat.pow_add, ← Nat.pow_add]
    exact Nat.pow_le_pow_right (by decide) (by omega)
  have h4 := Nat.mul_le_mul_left (4294967296 ^ m) hD
  omega
/-- the shifted number, with zeros behind it -/
theorem pad_limbs {a u k : Nat} (hu : u < 32) (hk : (limbs a).length + 1 = k) : (limbs (a * 2 ^ u)).length ≤ k := by
  have h1 := (limbs_len a _).1 (Nat.le_refl _)
  refine (limbs_len _ _).2 ?_
  have h2 : a * 2 ^ u < 4294967296 ^ (limbs a).length * 2 ^ u := Nat.mul_lt_mul_of_pos_right h1 (Nat.two_pow_pos u)
  have h3 : (2 : Nat) ^ u ≤ 2 ^ 32 := Nat.pow_le_pow_right (by decide) (by omega)
  have h4 := Nat.mul_le_mul_left (4294967296 ^ (limbs a).length) h3
  rw [← hk, Nat.pow_succ]
  omega
theorem val_pad (l : List Nat) (k : Nat) : val (l ++ List.replicate k 0) = val l := by rw [val_append, val_zeros, Nat.mul_zero, Nat.add_zero]
end Go.Proofs.Ytfifcpgjcgoinaa.NL
namespace Go.Proofs.Ytfifcpgjcgoinaa.GW
open Go
open Go.RowKit NL
theorem seg_len {out : List Nat} {o k : Nat} (hk : o + k ≤ out.length) : ((out.drop o).take k).length = k := by
  rw [List.length_take, List.length_drop]; omega
theorem seg_getD {out : List Nat} {o k j : Nat} (hj : j < k) : ((out.drop o).take k).getD j 0 = out.getD (o + j) 0 := by
  rw [getD_take hj, getD_drop]
theorem sl_seg {b : Nat} {T : TypeId} {out : List Nat} {fr : Nat × Nat} {o k c : Nat} (hk : o + k ≤ out.length) (hc : k ≤ c) (hc2 : c ≤ 140737488355328) (ho : Ok out) : (blkF b (.cells (u32s out).toArray T fr)).Sl (some ⟨b, o, none⟩) c ((out.drop o).take k) := by
  have hl := seg_len hk
  refine ⟨by omega, by omega, by omega, ?_, (ho.drop o).take k⟩
  intro _
  refine ⟨b, o, rfl, (u32s out).toArray, T, fr, by simp [blkF], fun j hj => ?_⟩
  rw [List.getElem?_toArray, seg_getD (by omega)]
  exact u32s_getD (by omega)
theorem splice_u32s (l : List Nat) (o : Nat) (s : List Nat) : splice (u32s l) o (u32s s) = u32s (l.take o ++ (s ++ l.drop (o + s.length))) := by
  simp [splice, u32s]
/-- What 'take' does to the limbs out: x: the multiple was greater. -/
def TkR (out d : List Nat) (o k t : Nat) (x : Bool) (out' : List Nat) : Prop :=
  (x = true ∧ val ((out.drop o).take k) < val d * t ∧ out' = out) ∨
  (x = false ∧ val d * t ≤ val ((out.drop o).take k) ∧ out'.length = out.length ∧ Ok out' ∧ (∀ j, (j < o ∨ o + k ≤ j) → out'.getD j 0 = out.getD j 0) ∧ val ((out'.drop o).take k) = val ((out.drop o).take k) - val d * t)
end Go.Proofs.Ytfifcpgjcgoinaa.GW
namespace Go.Proofs.Ytfifcpgjcgoinaa
open Go.RowKit GW NL
set_option maxRecDepth 20000 in
set_option maxHeartbeats 4000000 in
theorem take_any (b o k cr : Nat) (out : List Nat) (A2 : Option Addr) (cd : Nat) (d : List Nat) (t : Nat) (w : World) (hb : w.heap[b]? = some (.cells (u32s out).toArray 30 (0, 0))) (hk : o + k ≤ out.length) (hcr : k ≤ cr) (hcr2 : cr ≤ 140737488355328)
    (hok : Ok out) (h2 : SlW w A2 cd d) (hap : Apart A2 b) (hdk : d.length < k) (ht : t < 4294967296) (hl : out.length ≤ 1000000000) :
    Calls Try.prog 78 #[.slice (some ⟨b, o, none⟩) k cr, .slice A2 d.length cd, .int .u32 (t : Int)] w fun e w' => ∃ x out', e = .returned (.bool x) ∧ Chg [b] w w' ∧ w'.heap[b]? = some (.cells (u32s out').toArray 30 (0, 0)) ∧ TkR out d o k t x out' := by
  have hd := h2.but hap
  refine calls_m hb fun g => ?_
  have hsl : SlW g.w (some ⟨b, o, none⟩) cr ((out.drop o).take k) := (sl_seg hk hcr hcr2 hok).at (blkF_sub g.blk0)
  have hlen := seg_len hk
  have CC : Hid (∀ w, SlW w (some ⟨b, o, none⟩) cr ((out.drop o).take k) → Calls Try.prog 51 #[.slice (some ⟨b, o, none⟩) k cr] w fun e w' => ∃ A c F, e = .returned (.slice A k c) ∧ F.Sl A c ((out.drop o).take k) ∧ New w w' F) := Lib.hid (fun w h => by
    have := clone_any (some ⟨b, o, none⟩) cr ((out.drop o).take k) w h (by omega)
    unfold RLim at this
    simp only [hlen] at this
    exact this)
  have hko : k ≤ 1000000000 := by omega
  have TS := Lib.hid (Tk.start (out := out) (d := d) (o := o) (t := t) hok)
  have HL := Lib.hid hlen
  clear hlen
  go_enter Try.func78, Try.ntmps78
  go_wp2_with (with_reducible refine G.any_mark _ ?_; (try generalize Array.size (World.heap (G.w _)) = bk); (try dsimp only [List.set_cons_zero, List.set_cons_succ]); (try clear g); intro g)
  refine (CC.out _ hsl).mono ?_
  rintro e w1 ⟨Aw, cw, Fw, rfl, hsw, hn⟩
  obtain ⟨g1, rfl⟩ := G.new_ex _ hn
  clear hn hsl g
  revert g1
  intro g
  go_wp2_with (with_reducible refine G.any_mark _ ?_; (try generalize Array.size (World.heap (G.w _)) = bk); (try dsimp only [List.set_cons_zero, List.set_cons_succ]); (try clear g); intro g)
  rename_i mb _ _
  go_loopw [19] (fun i wr => ∃ (k' c1 c2 : Nat) (out' : List Nat), i = .int .i64 k' ∧ k' ≤ k ∧ out.length ≤ out'.length ∧ out'.length ≤ out.length ∧ Hid (Tk out d o t k' c1 c2 out') ∧ ∃ g : G w [b] [(bk, 74, [.int .u32 (c2 : Int)]), (mb, 74, [.int .u32 (c1 : Int)]), (b, 30, u32s out')] [Fw, heapBut w b], wr = g.w) (fun i _ => k - (intOf i).toNat)
  case atStart => exact ⟨0, 0, 0, out, rfl, Nat.zero_le _, Nat.le_refl _, Nat.le_refl _, TS, g, rfl⟩
  case round =>
    clear g CC TS
    obtain ⟨sb, rfl⟩ : ∃ sb : Nat, sb = bk := ⟨_, rfl⟩
    obtain ⟨k', c1, c2, out', rfl, hk', hl1, hl2, TK, g, rfl⟩ := hrel
    by_cases hk2 : k' < k
    · have hpl := u32s_getD (l := out') (j := o + k') (by omega)
      have hx : out'.getD (o + k') 0 < 4294967296 := TK.out.ok.getD _
      have hxe := TK.out.off (o + k') (.inr (Nat.le_refl _))
      have hy := h2.ok.getD k'
      have hc1 := TK.out.carry h2.ok ht
      have hc2 := TK.out.hc2
      have ST := Lib.hid (TK.out.step h2.ok ht (by omega))
      rw [← hxe] at ST
      clear hxe
      have CL := Lib.hid (fun w (hw : SlW w A2 cd d) => limb_any A2 cd d k' w hw (by omega))
      have CM := fun w => cmul_any mb c1 (d.getD k' 0) t 0 hy ht (by decide) hc1 w
      rw [show ((0 : Nat) : Int) = 0 from rfl] at CM
      replace CM := Lib.hid CM
      have hm : (d.getD k' 0 * t + 0 + c1) % 4294967296 < 4294967296 := Nat.mod_lt _ (by decide)
      have CS := Lib.hid (fun w => csub_any sb c2 (out'.getD (o + k') 0) ((d.getD k' 0 * t + 0 + c1) % 4294967296) hx hm hc2 w)
      have hs := Lib.hid (u32s_set out' (o + k') ((out'.getD (o + k') 0 + 4294967296 - (d.getD k' 0 * t + 0 + c1) % 4294967296 - c2) % 4294967296))
      have hll : (out'.set (o + k') ((out'.getD (o + k') 0 + 4294967296 - (d.getD k' 0 * t + 0 + c1) % 4294967296 - c2) % 4294967296)).length = out'.length := List.length_set ..
      generalize (out'.getD (o + k') 0 + 4294967296 - (d.getD k' 0 * t + 0 + c1) % 4294967296 - c2) % 4294967296 = r at *
      generalize brw (out'.getD (o + k') 0) ((d.getD k' 0 * t + 0 + c1) % 4294967296) c2 = c2' at *
      generalize (d.getD k' 0 * t + 0 + c1) % 4294967296 = m at *
      generalize (d.getD k' 0 * t + 0 + c1) / 4294967296 = c1' at *
      generalize out'.getD (o + k') 0 = x at *
      generalize d.getD k' 0 = y at *
      have hl3 := Nat.le_of_eq hll
      have hl4 := Nat.le_of_eq hll.symm
      clear hll TK
      go_wp2_with (with_reducible refine G.any_mark _ ?_; (try generalize Array.size (World.heap (G.w _)) = bk); (try dsimp only [List.set_cons_zero, List.set_cons_succ]); (try clear g); intro g)
      go_region_with (first | (go_at_call 76; refine (CL.out _ (G.sl _ (by simp) hd)).mono ?_; rintro e w1 ⟨rfl, rfl⟩) | (go_at_call 63; refine (CM.out _ (G.blk1 _)).mono ?_; rintro e w1 ⟨rfl, hch, hcb⟩; obtain ⟨g1, rfl⟩ := G.mut1 _ (cs' := [.int .u32 ((c1' : Nat) : Int)]) hch hcb; clear hch hcb; (try clear g); revert g1; intro g) | (go_at_call 84; refine (CS.out _ (G.blk0 _)).mono ?_; rintro e w1 ⟨rfl, hch, hcb⟩; obtain ⟨g1, rfl⟩ := G.mut0 _ (cs' := [.int .u32 ((c2' : Nat) : Int)]) hch hcb; clear hch hcb; (try clear g); revert g1; intro g))
      all_goals ((try simp only [G.drew_eq, G.drewN_eq]); (refine G.any_mark _ ?_; (try generalize Array.size (World.heap (G.w _)) = bk); (try dsimp only [List.set_cons_zero, List.set_cons_succ]); (try clear g); intro g))
      all_goals go_wp2_with (with_reducible refine G.any_mark _ ?_; (try generalize Array.size (World.heap (G.w _)) = bk); (try dsimp only [List.set_cons_zero, List.set_cons_succ]); (try clear g); intro g)
      all_goals obtain ⟨g2, hg2⟩ := g.as (by rw [hs.out])
      all_goals
        exact ⟨⟨k' + 1, c1', c2', out'.set (o + k') r, by go_num, by omega, by omega, by omega, ST, g2, hg2⟩, by simp [intOf]; omega⟩
    · obtain rfl : k' = k := by omega
      have FIN := TK.out.stop h2.ok ht hdk hok
      have hlb := lay_back TK.out.len hk TK.out.off
      have hok' := TK.out.ok
      have hoff := TK.out.off
      have hle := TK.out.len
      rcases FIN with ⟨rfl, f1, f2⟩ | ⟨rfl, f1⟩
      · have HF := Lib.hid f1
        have HF2 := Lib.hid f2
        have HO := Lib.hid hoff
        have HE := Lib.hid hle
        clear f1 f2 hoff hle hlb TK
        go_wp2_with (with_reducible refine G.any_mark _ ?_; (try generalize Array.size (World.heap (G.w _)) = bk); (try dsimp only [List.set_cons_zero, List.set_cons_succ]); (try clear g); intro g)
        go_ret
        exact ⟨false, out', rfl, g.chg, g.blk2, .inr ⟨rfl, HF.out, HE.out, hok', HO.out, HF2.out⟩⟩
      · have HF := Lib.hid f1
        have HB := Lib.hid hlb
        clear f1 hoff hle hlb TK
        have hL := HL.out
        obtain ⟨bw, ow, rfl, _⟩ := lim_cells hsw.lim (by omega)
        have hnews := Lib.hid (lim_news g (by simp) hsw.lim)
        have hspl := Lib.hid (splice_u32s out' o ((out.drop o).take k'))
        rw [hL, HB.out] at hspl
        have hcl : (u32s ((out.drop o).take k')).length = k' := by rw [u32s_len, hL]
        have h1c := Lib.hid (u32s_one ((out.drop o).take k'))
        have hul : o + (u32s ((out.drop o).take k')).length ≤ (u32s out').length := by rw [u32s_len, u32s_len]; omega
        have HCL := Lib.hid (hcl.trans (Nat.min_self k').symm)
        have HUL := Lib.hid hul
        clear hcl hul hL
        generalize u32s ((out.drop o).take k') = cs at *
        go_wp2_with (first | (with_reducible refine G.any_mark _ ?_; (try generalize Array.size (World.heap (G.w _)) = bk); (try dsimp only [List.set_cons_zero, List.set_cons_succ]); (try clear g); intro g) | ((with_reducible show wpList _ _ _ _ _ _); refine wpList_copy_g (o := ⟨some 45, _, _, _, _, _⟩) rfl _ _ 24 24 rfl 30 Try.underlying24 (by kernel_rfl) _ _ k' cr k' cw rfl rfl g 2 rfl o cs HCL.out (fun _ => ⟨rfl, _, rfl, hnews.out⟩) HUL.out h1c.out ?_; clear hnews g; dsimp only [List.set_cons_zero, List.set_cons_succ]; intro g))
        go_ret
        refine ⟨true, out, rfl, g.chg, ?_, .inl ⟨rfl, HF.out, rfl⟩⟩
        exact g.blk2.trans (by rw [hspl.out])
end Go.Proofs.Ytfifcpgjcgoinaa
namespace Go.Proofs.Ytfifcpgjcgoinaa
open Go.RowKit GW NL Go.Shelf
attribute [local go_sem] Oper.semAt_some
set_option maxRecDepth 100000 in
set_option maxHeartbeats 2000000 in
/-- slices.Backward's closure over limbs; the body keeps what Kp says -/
theorem back1_k (F : Fence) (nn : Nat) (h9 : F.fn 92) (hro : F.round = none) (hn : 1 ≤ nn) (l Bs : Nat) (Kp : World → World → Prop) (hKr : ∀ W, Kp W W) (hKt : ∀ {A B C}, Kp A B → Kp B C → Kp A C) (A : Option Addr) (n cap : Nat) (f : Nat → Nat) (hreach : n ≤ 35184372088832) (hKc : ∀ {W W'}, Kp W W' → W'.cell? ⟨Bs, 0, none⟩ = W.cell? ⟨Bs, 0, none⟩ ∧ ∀ b o, A = some ⟨b, o, none⟩ → ∀ j, j < n → W'.cell? ⟨b, o + j, none⟩ = W.cell? ⟨b, o + j, none⟩) (J Jx : List (Fin n) → World → Prop)
    (hY : ∀ pre (x : Fin n) W, J pre W → pre.length < n → YieldAt F (nn - 1) Try.prog l #[.int .i64 ((x.val : Nat) : Int), .int .u32 ((f x.val : Nat) : Int)] W fun e W' =>
      (e = .returned (.bool true) ∧ J (pre ++ [x]) W' ∧ Kp W W') ∨ (e = .returned (.bool false) ∧ Jx (pre ++ [x]) W'))
    (W : World) (hBc : W.cell? ⟨Bs, 0, none⟩ = some (.slice A n cap)) (hc : 0 < n → ∃ b o, A = some ⟨b, o, none⟩ ∧ ∀ j, j < n → W.cell? ⟨b, o + j, none⟩ = some (.int .u32 ((f j : Nat) : Int))) (h0 : J [] W) :
    CallsIn F nn Try.prog 92 #[.func (.yield l) #[] #[], .pointer (some ⟨Bs, 0, none⟩)] W fun e W' => (∃ v, e = .returned v) ∧
      ((∃ ys, ys = (List.finRange n).reverse ∧ J ys W') ∨ (∃ pre, (∃ k, k ≤ n ∧ pre = (List.finRange n).reverse.take k) ∧ Jx pre W')) := by
  refine callsIn_of_wp Try.func92 rfl h9 ?_ hro
  simp only [Try.ntmps92, List.size_toArray, List.length_cons, List.length_nil, Nat.reduceAdd, Nat.reduceSub, Array.replicate_succ, Array.replicate_zero, List.push_toArray, List.append_toArray, List.nil_append, List.cons_append]
  gi_wp2
  gi_loopw [3] (fun i wr => ∃ (k : Nat) (i' : Int), i = .int .i64 i' ∧ i' + k + 1 = n ∧ k ≤ n ∧ J ((List.finRange n).reverse.take k) wr ∧ Kp W wr)
    (fun i _ => (intOf i + 1).toNat)
  case atStart => exact ⟨0, _, rfl, by omega, Nat.zero_le _, h0, hKr _⟩
  case round =>
    obtain ⟨k, i', rfl, hi, hk, hJs, hnx⟩ := hrel
    have hbx := (hKc hnx).1.trans hBc
    by_cases hlt : 0 ≤ i'
    · obtain ⟨j, rfl⟩ : ∃ j : Nat, i' = j := ⟨i'.toNat, by omega⟩
      obtain ⟨b, o, rfl, hcc⟩ := hc (by omega)
      have hcx := ((hKc hnx).2 b o rfl j (by omega)).trans (hcc j (by omega))
      have hjn : j < n := by omega
      obtain ⟨fn, tmps, assign, body, hy, hR⟩ := hY _ ⟨j, hjn⟩ wr hJs (by rw [rev_take_length hk]; omega)
      dsimp only at hy
      have hE : (List.finRange n).reverse.take (k + 1) = (List.finRange n).reverse.take k ++ [⟨j, hjn⟩] := by
        rw [rev_take (by omega)]
        congr 3
        omega
      have HE := Lib.hid hE
      clear hE hcc hc
      have HI := Lib.hid hi
      have hi1 : j + k < n := by omega
      have hi2 : (j : Int) + k + 1 ≤ n := by omega
      clear hi
      have hjj : ((j : Int) ≥ 0) := by omega
      gi_wp2
      refine hR.mono ?_
      rintro e W3 (⟨rfl, hJ3, hk3⟩ | ⟨rfl, hJx3⟩)
      · gi_wp2
        go_roundw
        case rel => exact ⟨k + 1, _, rfl, by have := HI.out; omega, by omega, by rw [HE.out]; exact hJ3, hKt hnx hk3⟩
        case measure => first | (simp [intOf]; done) | (simp [intOf]; omega)
      · gi_wp2
        refine bodyPost_ret (results_none rfl _ _ _) rfl ?_
        exact ⟨⟨_, rfl⟩, .inr ⟨_, ⟨k + 1, by omega, HE.out.symm⟩, hJx3⟩⟩
    · obtain rfl : k = n := by omega
      obtain rfl : i' = -1 := by omega
      gi_wp2
      go_end0
      rw [List.take_of_length_le (by simp)] at hJs
      first | exact ⟨⟨_, rfl⟩, .inl ⟨_, rfl, hJs⟩⟩ | exact ⟨⟨_, rfl⟩, .inl hJs⟩
theorem div32_any (hi lo d : Nat) (h1 : hi < d) (h2 : lo < 4294967296) (h3 : d < 4294967296) (w : World) :
    Calls Try.prog 83 #[.int .u32 hi, .int .u32 lo, .int .u32 d] w fun e w' => e = .returned (.tuple #[.int .u32 (((hi * 4294967296 + lo) / d : Nat) : Int), .int .u32 (((hi * 4294967296 + lo) % d : Nat) : Int)]) ∧ Below w.heap.size w w' := by
  refine calls_g fun g => ?_
  have hor : bits .or .u64 ((hi : Int) * 4294967296) (lo : Int) = ((hi * 4294967296 + lo : Nat) : Int) := by
    rw [show (hi : Int) * 4294967296 = ((hi * 4294967296 : Nat) : Int) by omega, K3.or64_comm, K3.or64_add _ _ 32 (by omega) (by omega) (by omega) (by omega)]
  have ht : hi * 4294967296 + lo < 18446744073709551616 := by omega
  have hq : (hi * 4294967296 + lo) / d < 4294967296 := by
    apply Nat.div_lt_of_lt_mul
    have := Nat.mul_le_mul_right 4294967296 (Nat.succ_le_of_lt h1)
    rw [Nat.succ_mul] at this
    omega
  have hr : (hi * 4294967296 + lo) % d < d := Nat.mod_lt _ (by omega)
  obtain ⟨t, htt⟩ : ∃ t, hi * 4294967296 + lo = t := ⟨_, rfl⟩
  rw [htt] at hor ht hq hr ⊢
  clear htt
  have e1 : Int.tdiv (t : Int) (d : Int) = ((t / d : Nat) : Int) := by rw [Int.tdiv_eq_ediv_of_nonneg (by omega)]; exact (Int.natCast_ediv t d).symm
  have e2 : Int.tmod (t : Int) (d : Int) = ((t % d : Nat) : Int) := by rw [Int.tmod_eq_emod_of_nonneg (by omega)]; exact (Int.natCast_emod t d).symm
  generalize t / d = q at *
  generalize t % d = r at *
  have hd0 : ((d : Int) == 0) = false := by rw [beq_eq_false_iff_ne]; omega
  have hd1 : ¬ ((d : Int) ≤ (hi : Int)) := by omega
  have hd2 : ((d : Int) = 0) = False := by rw [eq_iff_iff, iff_false]; omega
  have hwd : IntKind.u64.wrap (d : Int) = (d : Int) := by rw [IntKind.wrap_u64]; omega
  have hwq : IntKind.u64.wrap (q : Int) = (q : Int) := by rw [IntKind.wrap_u64]; omega
  have hwr : IntKind.u64.wrap (r : Int) = (r : Int) := by rw [IntKind.wrap_u64]; omega
  have hvq : IntKind.u32.wrap (q : Int) = (q : Int) := by rw [IntKind.wrap_u32]; omega
  have hvr : IntKind.u32.wrap (r : Int) = (r : Int) := by rw [IntKind.wrap_u32]; omega
  go_enter Try.func83, Try.ntmps83
  go_wp2_with (with_reducible refine G.any_mark _ ?_; (try generalize Array.size (World.heap (G.w _)) = bk); (try dsimp only [List.set_cons_zero, List.set_cons_succ]); (try clear g); intro g)
  go_region_held3 (fun _ => True) (trivial) (fail)
  ((try simp only [G.drew_eq, G.drewN_eq]); (refine G.any_mark _ ?_; (try generalize Array.size (World.heap (G.w _)) = bk); (try dsimp only [List.set_cons_zero, List.set_cons_succ]); (try clear g); intro g))
  go_wp2_with (with_reducible refine G.any_mark _ ?_; (try generalize Array.size (World.heap (G.w _)) = bk); (try dsimp only [List.set_cons_zero, List.set_cons_succ]); (try clear g); intro g)
  go_ret2
  exact ⟨rfl, G.below _⟩
end Go.Proofs.Ytfifcpgjcgoinaa
namespace Go.Proofs.Ytfifcpgjcgoinaa.GW
open Go
open Go.RowKit
section
variable {w0 : World} {M M' : List Blk} {I : List Frag}
/-- a block that holds no cells turns, or there are new blocks -/
theorem G.grown_ex (g : G w0 [] M I) {W' : World} {row : Option Nat} {B : Nat} (hB : w0.heap.size ≤ B) (hI : ∀ f ∈ I, ∀ k o, f k = some o → k < B ∨ o.isCells = true) (hg : g.w.grownBy W' row)
    (hr : ∀ r, row = some r → B ≤ r ∧ ∃ o : Obj, g.w.heap[r]? = some o ∧ o.isCells = false) : ∃ g' : G w0 [] M I, W' = g'.w := by
  refine ⟨⟨W', Chg.of_below (g.below.grown hg g.chg.size (fun k e => Nat.le_trans hB (hr k e).1)), ?_, g.may, g.dist, ?_, g.keep⟩, rfl⟩
  · intro m hm
    refine (hg.block m.1 (g.lt hm) ?_).trans (g.own m hm)
    intro e
    obtain ⟨_, o, ho, hc⟩ := hr m.1 e.symm
    rw [g.own m hm] at ho
    cases ho
    cases hc
  · intro f hf k o hk
    refine (hg.block k (Frag.lt (g.sub f hf) hk) ?_).trans (g.sub f hf k o hk)
    intro e
    obtain ⟨h1, o', ho, hc⟩ := hr k e.symm
    rw [g.sub f hf k o hk] at ho
    cases ho
    rcases hI f hf k o hk with h | h
    · omega
    · rw [hc] at h; cases h
/-- the same world as the beginning of a walk that may write the blocks M -/
theorem G.rebase (g : G w0 [] M I) : ∃ g' : G g.w (M.map (·.1)) M I, g.w = g'.w :=
  ⟨⟨g.w, Chg.refl _ _, g.own, fun m hm => .inr (List.mem_map.2 ⟨m, hm, rfl⟩), g.dist, g.sub, fun f hf k o hk => ⟨.inr (g.keep f hf k o hk).2, (g.keep f hf k o hk).2⟩⟩, rfl⟩
/-- and back -/
theorem G.unbase (g : G w0 [] M I) (h : G g.w (M.map (·.1)) M' I) (e : M'.map (·.1) = M.map (·.1)) : ∃ g' : G w0 [] M' I, h.w = g'.w := by
  have mk : ∀ k, k ∈ M.map (·.1) → w0.heap.size ≤ k := by
    intro k hk
    obtain ⟨m, hm, rfl⟩ := List.mem_map.1 hk
    exact g.fresh hm
  refine ⟨⟨h.w, ⟨h.chg.os.trans g.chg.os, h.chg.tape.trans g.chg.tape, h.chg.output.trans g.chg.output, Nat.le_trans g.chg.size h.chg.size, fun k hk _ => ?_⟩, h.own, ?_, h.dist, h.sub, ?_⟩, rfl⟩
  · rw [h.chg.block k (Nat.lt_of_lt_of_le hk g.chg.size) (fun hm => by have := mk k hm; omega)]
    exact g.chg.block k hk (by simp)
  · intro m hm
    refine .inl (mk _ ?_)
    rw [← e]
    exact List.mem_map.2 ⟨m, hm, rfl⟩
  · intro f hf k o hk
    refine ⟨.inr (by simp), ?_⟩
    rw [e]
    exact (g.keep f hf k o hk).2
/-- what holds no cells stays -/
theorem G.keeps (g : G w0 [] M I) (h : G g.w (M.map (·.1)) M' I) : KeepsOthers g.w h.w :=
  ⟨h.chg.size, fun k o hk ho => by
    rw [h.chg.block k (Array.getElem?_eq_some_iff.1 hk).1 ?_]
    · exact hk
    · intro hm
      obtain ⟨m, hm2, e⟩ := List.mem_map.1 hm
      have := g.own m hm2
      rw [e, hk] at this
      cases this
      cases ho⟩
end
/-- what was below n₀ stays, and the block Bs -/
structure KeepB (n₀ Bs : Nat) (W W' : World) : Prop where
  old : ∀ k, k < n₀ → W'.heap[k]? = W.heap[k]?
  box : W'.heap[Bs]? = W.heap[Bs]?
theorem KeepB.refl (n₀ Bs : Nat) (W : World) : KeepB n₀ Bs W W := ⟨fun _ _ => rfl, rfl⟩
theorem KeepB.trans {n₀ Bs : Nat} {A B C : World} (h : KeepB n₀ Bs A B) (k : KeepB n₀ Bs B C) : KeepB n₀ Bs A C := ⟨fun i hi => (k.old i hi).trans (h.old i hi), k.box.trans h.box⟩
theorem KeepB.put {n₀ Bs l : Nat} {W : World} {o : Obj} (h : n₀ ≤ l) (hb : Bs ≠ l) : KeepB n₀ Bs W (W.putObj l o) :=
  ⟨fun k hk => World.putObj_heap_other (by omega), World.putObj_heap_other (by omega)⟩
theorem G.keepB {w0 : World} {M M' : List Blk} {Bs : Nat} {o : Obj} (g : G w0 [] M [blkF Bs o, heapOf w0]) {w1 : World} {X : List Nat} (h : G w1 X M' [blkF Bs o, heapOf w0]) : KeepB w0.heap.size Bs g.w h.w := by
  have hb : ∀ k o', blkF Bs o k = some o' → h.w.heap[k]? = g.w.heap[k]? := fun k o' hk => (h.sub _ (by simp) k o' hk).trans (g.sub _ (by simp) k o' hk).symm
  refine ⟨fun k hk => ?_, hb Bs o (by simp [blkF])⟩
  have e : heapOf w0 k = some w0.heap[k] := Array.getElem?_eq_getElem hk
  exact (h.sub (heapOf w0) (by simp) k _ e).trans (g.sub (heapOf w0) (by simp) k _ e).symm
/-- behind the end of a function that collected deferred calls -/
theorem New.put {w0 W : World} {F : Frag} {D : Nat} {o o' : Obj} (h : New w0 W F) (hd : W.heap[D]? = some o) (ho : o.isCells = false) (hD : w0.heap.size ≤ D) (hF : ∀ k o, F k = some o → o.isCells = true) : New w0 (W.putObj D o') F :=
  ⟨h.below.grown (grownBy_putObj' W D o') (by have := (Array.getElem?_eq_some_iff.1 hd).1; omega) (fun k e => by cases e; exact hD), fun k o2 hk => by
    rw [World.putObj_heap_other (fun e => by
      subst e
      have := h.sub _ _ hk
      rw [hd] at this
      cases this
      rw [hF _ _ hk] at ho; cases ho)]
    exact h.sub k o2 hk, h.new⟩
end Go.Proofs.Ytfifcpgjcgoinaa.GW
namespace Go.Proofs.Ytfifcpgjcgoinaa.GW
open Go
open Go.RowKit
/-- a block that nobody writes any more -/
theorem G.fix {w0 : World} {M : List Blk} {I : List Frag} {b : Nat} {T : TypeId} {cs : List Value} (g : G w0 [] ((b, T, cs) :: M) I) : ∃ g' : G w0 [] M (blkF b (.cells cs.toArray T (0, 0)) :: I), g.w = g'.w := by
  have hd := g.dist
  rw [List.map_cons, List.nodup_cons] at hd
  refine ⟨⟨g.w, g.chg, fun m hm => g.own m (List.mem_cons_of_mem _ hm), fun m hm => g.may m (List.mem_cons_of_mem _ hm), hd.2, ?_, ?_⟩, rfl⟩
  · intro f hf
    rcases List.mem_cons.1 hf with rfl | hf
    · exact blkF_sub g.blk0
    · exact g.sub f hf
  · intro f hf k o hk
    refine ⟨.inr (by simp), ?_⟩
    rcases List.mem_cons.1 hf with rfl | hf
    · rw [blkF_at hk]; exact hd.1
    · exact fun hm => (g.keep f hf k o hk).2 (by rw [List.map_cons]; exact List.mem_cons_of_mem _ hm)
/-- a block that holds no cells -/
theorem G.seeD {w0 : World} {M : List Blk} {I : List Frag} (g : G w0 [] M I) {D : Nat} {o : Obj} (h : g.w.heap[D]? = some o) (ho : o.isCells = false) : ∃ g' : G w0 [] M (blkF D o :: I), g.w = g'.w :=
  ⟨g.see (blkF D o) (blkF_sub h) fun k o' hk => ⟨.inr (by simp), fun hm => by
    obtain ⟨m, hm2, e⟩ := List.mem_map.1 hm
    have := g.own m hm2
    rw [e, blkF_at hk, h] at this
    cases this
    cases ho⟩, rfl⟩
end Go.Proofs.Ytfifcpgjcgoinaa.GW
namespace Go.Proofs.Ytfifcpgjcgoinaa.GW
open Go
theorem G.at_rebase {w0 : World} {M : List Blk} {I : List Frag} {p : World → Prop} (g : G w0 [] M I) (hp : ∀ h : G g.w (M.map (·.1)) M I, p h.w) : p g.w := by
  obtain ⟨h, e⟩ := g.rebase
  exact e ▸ hp h
end Go.Proofs.Ytfifcpgjcgoinaa.GW
