/- Plain facts and contracts of functions of the program, out of walks. Their conditions stand ahead of each. -/
import Derived.Test.YtjdnpkicdmapnaaGreatDoorNm1
import Derived.Below
import Derived.Deep.Draws
import Derived.Laws.NewBlocks
import Derived.Laws.OwnMore
import Derived.Laws.Rows
import Derived.Maps.AppendAt
import Derived.WalkKit
import Derived.Deep.RegionLaw
import Derived.RangeFuncNested
import Derived.OwnWalk
import Derived.Lib.BitFns
import Derived.Lib.ItoaNum
import Derived.Room.AppendFits
set_option linter.unusedVariables false
set_option linter.unusedSimpArgs false
namespace Go.Proofs.YtjdnpkicdmapnaaGreatDoor.GW
open Go
open Go.RowKit
section
variable {w0 : World} {X : List Nat} {R : List Blk} {I : List Frag}
theorem wp_append_g {P : Program} {o : Oper} {a : Act} {K : Act → World → Prop} {E : Exit → Act → World → Prop} (s x : Operand) (t : TypeId)
    (ho : o.op = .call { callee := .builtin .append, args := #[s, x], argTypes := #[t, t] })
    (e : TypeId) (i : TypeInfo) (z : Value) (size bytes : Nat) (ht : P.underlying t = some (.slice e)) (hi : P.info? e = some i) (hz : i.zero = some z)
    (hsize : i.size = size) (hby : i.bytes = bytes) (hzs : z.cells.size = size) (hsz : 0 < size)
    (g : G w0 X R I) (v : Value) (n : Nat) (xs : List Value) (hs : a.eval s = v) (hown : g.w.ownsRow w0.heap.size e size v n xs)
    (hne : ∀ m ∈ R, some m.1 ≠ v.ownBlock) (hfr : ∀ f ∈ I, ∀ k o, f k = some o → some k ≠ v.ownBlock)
    (ad : Addr) (m c : Nat) (news : List Value) (hx : a.eval x = .slice (some ad) m c) (hl : news.length = m * size) (hnews : ∀ j u, news[j]? = some u → g.w.cell? (ad.add j) = some u) (h1 : ∀ u ∈ news, u.oneCell' = true)
    (hm : 0 < m) (h63 : n + m ≤ maxLen) (hbytes : (n + m) * bytes ≤ 140737488355328)
    (h : ∀ b cap cs, ∀ g' : G w0 X ((b, e, cs) :: R) I, w0.heap.size ≤ b → Row e size (n + m) (xs ++ news) cap cs → K (a.put o.dst (.slice (some ⟨b, 0, none⟩) (n + m) cap)) g'.w) :
    o.wp P a g.w K E := by
  obtain ⟨v', w', hr, ho', hg, hv, hb⟩ := run_append_own_at (P := P) g.w w0.heap.size t o.type e i z size bytes ht hi hz hsize hby hzs hsz v n xs hown ad m c news hl hnews h1 h63 hbytes g.chg.size
  unfold Oper.wp execOp
  simp only [ho, resolve, invoke, builtin, Sem.run_bind, Sem.run_pure, Result.andThen_ok, List.map_toArray, List.map_cons, List.map_nil, hs, hx, hr]
  rcases ho'.2 with ⟨e1, e2⟩ | ⟨b, cap, cur, rfl, hb0, hh, hle, hmx, hcl, hct⟩
  · exfalso; omega
  · have hrow : ∀ k, v.ownBlock = some k → w0.heap.size ≤ k := fun k hk => (hown.lt k hk).1
    have hb' : v.ownBlock = some b ∨ b = g.w.heap.size := by
      rcases hb with hb | hb
      · exact .inl hb.symm
      · right; exact Option.some.inj hb
    obtain ⟨g', rfl⟩ := g.grow (cs := cur.toList) hg hrow hne hfr hb' (by rw [Array.toArray_toList]; exact hh)
    exact h b cap cur.toList g' hb0 ⟨hle, hmx, by rw [Array.length_toList]; exact hcl, hct, ho'.1⟩
theorem wp_append_lit {P : Program} {o : Oper} {a : Act} {K : Act → World → Prop} {E : Exit → Act → World → Prop} (s x : Operand) (t : TypeId)
    (ho : o.op = .call { callee := .builtin .append, args := #[s, x], argTypes := #[t, t] })
    (e : TypeId) (i : TypeInfo) (z : Value) (size bytes : Nat) (ht : P.underlying t = some (.slice e)) (hi : P.info? e = some i) (hz : i.zero = some z)
    (hsize : i.size = size) (hby : i.bytes = bytes) (hzs : z.cells.size = size) (hsz : 0 < size)
    {bs b n cap : Nat} {news cs xs : List Value} (g : G w0 X ((bs, e, news) :: (b, e, cs) :: R) I) (hr : Row e size n xs cap cs) (hb : w0.heap.size ≤ b) (hs : a.eval s = .slice (some ⟨b, 0, none⟩) n cap) (m : Nat) (hx : a.eval x = .slice (some ⟨bs, 0, none⟩) m m) (hl : news.length = m * size) (h1 : ∀ u ∈ news, u.oneCell' = true)
    (hm : 0 < m) (h63 : n + m ≤ maxLen) (hbytes : (n + m) * bytes ≤ 140737488355328)
    (h : ∀ b cap cs, ∀ g' : G w0 X ((b, e, cs) :: R) I, w0.heap.size ≤ b → Row e size (n + m) (xs ++ news) cap cs → K (a.put o.dst (.slice (some ⟨b, 0, none⟩) (n + m) cap)) g'.w) :
    o.wp P a g.w K E := by
  have hown := g.rowAt hr (List.mem_cons_of_mem _ (List.mem_cons_self ..)) hb
  have hd := g.dist
  have hk := g.keep
  obtain ⟨g1, e1⟩ := g.less (M' := (bs, e, news) :: R) (by exact (List.sublist_cons_self _ _).cons_cons _)
  rw [e1] at hown ⊢
  rw [List.map_cons, List.map_cons, List.nodup_cons, List.nodup_cons, List.mem_cons] at hd
  refine wp_append_g s x t ho e i z size bytes ht hi hz hsize hby hzs hsz g1 _ n xs hs hown ?_ ?_ ⟨bs, 0, none⟩ m m news hx hl ?_ h1 hm h63 hbytes ?_
  · intro m hm e'
    have e3 : m.1 = b := Option.some.inj e'
    rcases List.mem_cons.1 hm with rfl | hm
    · exact hd.1 (.inl e3)
    · exact hd.2.1 (List.mem_map.2 ⟨m, hm, e3⟩)
  · intro f hf k o hk' e'
    have e3 : k = b := Option.some.inj e'
    exact (hk f hf k o hk').2 (by rw [List.map_cons, List.map_cons, List.mem_cons, List.mem_cons]; exact .inr (.inl e3))
  · intro j u hj
    have := g1.own _ (List.mem_cons_self ..)
    simp only at this
    rw [add_off]
    simp [World.cell?, this, hj]
  · intro b cap cs g' hb hr
    obtain ⟨g2, e2⟩ := g'.less (M' := (b, e, cs) :: R) (by exact (List.sublist_cons_self _ _).cons_cons _)
    rw [e2]
    exact h b cap cs g2 hb hr
end
end Go.Proofs.YtjdnpkicdmapnaaGreatDoor.GW
namespace Go.Proofs.YtjdnpkicdmapnaaGreatDoor.GW
open Go
open Go.RowKit NL
section
variable {w0 : World} {R : List Blk} {I : List Frag}
theorem step_append_row {P : Program} {ops : Array Oper} {o : Oper} {a : Act} {K : Act → World → Prop} {Q : Exit → Act → World → Prop} {E : Prop} (hgd : o.guard = none) (s x : Operand) (t : TypeId)
    (ho : o.op = .call { callee := .builtin .append, args := #[s, x], argTypes := #[t, t] })
    (e : TypeId) (i : TypeInfo) (z : Value) (size bytes : Nat) (ht : P.underlying t = some (.slice e)) (hi : P.info? e = some i) (hz : i.zero = some z)
    (hsize : i.size = size) (hby : i.bytes = bytes) (hzs : z.cells.size = size) (hsz : 0 < size)
    {b n cap : Nat} {cs xs : List Value} (g : G w0 [] ((b, e, cs) :: R) I) (hr : Row e size n xs cap cs) (hs : a.eval s = .slice (some ⟨b, 0, none⟩) n cap)
    (m c : Nat) (news : List Value) (ad : Option Addr) (hx : a.eval x = .slice ad m c) (hl : news.length = m * size) (hnews : ∃ ad', ad = some ad' ∧ ∀ j u, news[j]? = some u → g.w.cell? (ad'.add j) = some u) (h1 : ∀ u ∈ news, u.oneCell' = true)
    (hm : 0 < m) (h63 : n + m ≤ maxLen) (hbytes : (n + m) * bytes ≤ 140737488355328)
    (h : ∀ b cap cs, ∀ g' : G w0 [] ((b, e, cs) :: R) I, w0.heap.size ≤ b → Row e size (n + m) (xs ++ news) cap cs → K (a.put o.dst (.slice (some ⟨b, 0, none⟩) (n + m) cap)) g'.w) :
    if Region.wanted o (yielded ops a.tmps) = true then Oper.wp P o a g.w K Q else E := by
  have hw : Region.wanted o (yielded ops a.tmps) = true := by simp [Region.wanted, hgd]
  rw [if_pos hw]
  obtain ⟨ad', rfl, hnews⟩ := hnews
  have hb : w0.heap.size ≤ b := g.fresh (List.mem_cons_self ..)
  have hown := g.rowAt hr (List.mem_cons_self ..) hb
  have hap := g.apart
  obtain ⟨g1, e1⟩ := g.less (M' := R) (List.sublist_cons_self _ _)
  rw [e1] at hown hnews ⊢
  exact wp_append_g s x t ho e i z size bytes ht hi hz hsize hby hzs hsz g1 _ n xs hs hown hap.1 hap.2 ad' m c news hx hl hnews h1 hm h63 hbytes h
end
theorem row_zeros (T : TypeId) (n : Nat) (h : n ≤ 9223372036854775807) : Row T 1 n (u32s (List.replicate n 0)) n (u32s (List.replicate n 0)) :=
  ⟨Nat.le_refl _, by show n ≤ 9223372036854775807; omega, by rw [u32s_len, List.length_replicate, Nat.mul_one], by rw [Nat.mul_one, List.take_of_length_le (by rw [u32s_len, List.length_replicate]; exact Nat.le_refl _)], by rw [u32s_len, List.length_replicate, Nat.mul_one]⟩
end Go.Proofs.YtjdnpkicdmapnaaGreatDoor.GW
namespace Go.Proofs.YtjdnpkicdmapnaaGreatDoor.GW
open Go
open Go Go.RowKit
/-- the second type of append matters by its underlying type alone -/
theorem append_tx {P : Program} (w : World) {t tx ty e e2 : TypeId} (ht : P.underlying t = some (.slice e)) (htx : P.underlying tx = some (.slice e2)) (s x : Value) :
    (Builtin.append_ #[t, tx] ty #[s, x]).run P w = (Builtin.append_ #[t, t] ty #[s, x]).run P w := by
  unfold Builtin.append_
  simp only [List.getElem?_toArray, List.getElem?_cons_zero, List.getElem?_cons_succ, Sem.run_bind, run_underlying ht, run_underlying htx, Result.andThen_ok, Sem.run_pure]
  cases s <;> simp only [Sem.run_bind, run_underlying ht, run_underlying htx, Result.andThen_ok, Sem.run_pure]
section
variable {w0 : World} {X : List Nat} {R : List Blk} {I : List Frag}
theorem wpList_append_gx {P : Program} {ops : Array Oper} {rest : List Oper} {o : Oper} {a : Act} {Q : Exit → Act → World → Prop} (hgd : o.guard = none) (s x : Operand) (t tx : TypeId)
    (ho : o.op = .call { callee := .builtin .append, args := #[s, x], argTypes := #[t, tx] })
    (e : TypeId) (i : TypeInfo) (z : Value) (size bytes : Nat) (ht : P.underlying t = some (.slice e)) (htx : P.underlying tx = some (.slice e)) (hi : P.info? e = some i) (hz : i.zero = some z)
    (hsize : i.size = size) (hby : i.bytes = bytes) (hzs : z.cells.size = size) (hsz : 0 < size)
    (g : G w0 X R I) (v : Value) (n : Nat) (xs : List Value) (hs : a.eval s = v) (hown : g.w.ownsRow w0.heap.size e size v n xs)
    (hne : ∀ m ∈ R, some m.1 ≠ v.ownBlock) (hfr : ∀ f ∈ I, ∀ k o, f k = some o → some k ≠ v.ownBlock)
    (ad : Addr) (m c : Nat) (news : List Value) (hx : a.eval x = .slice (some ad) m c) (hl : news.length = m * size) (hnews : ∀ j u, news[j]? = some u → g.w.cell? (ad.add j) = some u) (h1 : ∀ u ∈ news, u.oneCell' = true)
    (hm : 0 < m) (h63 : n + m ≤ maxLen) (hbytes : (n + m) * bytes ≤ 140737488355328)
    (h : ∀ b cap cs, ∀ g' : G w0 X ((b, e, cs) :: R) I, w0.heap.size ≤ b → Row e size (n + m) (xs ++ news) cap cs → wpList P ops Q rest (a.put o.dst (.slice (some ⟨b, 0, none⟩) (n + m) cap)) g'.w) :
    wpList P ops Q (o :: rest) a g.w := by
  refine wpList_plain hgd fun K hK => ?_
  obtain ⟨v', w', hr, ho', hg, hv, hb⟩ := run_append_own_at (P := P) g.w w0.heap.size t o.type e i z size bytes ht hi hz hsize hby hzs hsz v n xs hown ad m c news hl hnews h1 h63 hbytes g.chg.size
  rw [← append_tx g.w ht htx] at hr
  unfold Oper.wp execOp
  simp only [ho, resolve, invoke, builtin, Sem.run_bind, Sem.run_pure, Result.andThen_ok, List.map_toArray, List.map_cons, List.map_nil, hs, hx, hr]
  refine hK _ _ ?_
  rcases ho'.2 with ⟨e1, e2⟩ | ⟨b, cap, cur, rfl, hb0, hh, hle, hmx, hcl, hct⟩
  · exfalso; omega
  · have hrow : ∀ k, v.ownBlock = some k → w0.heap.size ≤ k := fun k hk => (hown.lt k hk).1
    have hb' : v.ownBlock = some b ∨ b = g.w.heap.size := by
      rcases hb with hb | hb
      · exact .inl hb.symm
      · right; exact Option.some.inj hb
    obtain ⟨g', rfl⟩ := g.grow (cs := cur.toList) hg hrow hne hfr hb' (by rw [Array.toArray_toList]; exact hh)
    exact h b cap cur.toList g' hb0 ⟨hle, hmx, by rw [Array.length_toList]; exact hcl, hct, ho'.1⟩
/-- 'append' to a row at the head of the blocks, from any source -/
theorem wpList_append_rowx {P : Program} {ops : Array Oper} {rest : List Oper} {o : Oper} {a : Act} {Q : Exit → Act → World → Prop} (hgd : o.guard = none) (s x : Operand) (t tx : TypeId)
    (ho : o.op = .call { callee := .builtin .append, args := #[s, x], argTypes := #[t, tx] })
    (e : TypeId) (i : TypeInfo) (z : Value) (size bytes : Nat) (ht : P.underlying t = some (.slice e)) (htx : P.underlying tx = some (.slice e)) (hi : P.info? e = some i) (hz : i.zero = some z)
    (hsize : i.size = size) (hby : i.bytes = bytes) (hzs : z.cells.size = size) (hsz : 0 < size)
    {b n cap : Nat} {cs xs : List Value} (g : G w0 X ((b, e, cs) :: R) I) (hr : Row e size n xs cap cs) (hb : w0.heap.size ≤ b) (hs : a.eval s = .slice (some ⟨b, 0, none⟩) n cap)
    (m c : Nat) (news : List Value) (A : Option Addr) (hx : a.eval x = .slice A m c) (hl : news.length = m * size) (hsrc : ∃ ad, A = some ad ∧ ∀ j u, news[j]? = some u → g.w.cell? (ad.add j) = some u) (h1 : ∀ u ∈ news, u.oneCell' = true)
    (hm : 0 < m) (h63 : n + m ≤ maxLen) (hbytes : (n + m) * bytes ≤ 140737488355328)
    (h : ∀ b cap cs, ∀ g' : G w0 X ((b, e, cs) :: R) I, w0.heap.size ≤ b → Row e size (n + m) (xs ++ news) cap cs → wpList P ops Q rest (a.put o.dst (.slice (some ⟨b, 0, none⟩) (n + m) cap)) g'.w) :
    wpList P ops Q (o :: rest) a g.w := by
  obtain ⟨ad, rfl, hnews⟩ := hsrc
  have hown := g.rowAt hr (List.mem_cons_self ..) hb
  obtain ⟨ha, hf⟩ := g.apart
  obtain ⟨g1, e1⟩ := g.less (M' := R) (List.sublist_cons_self _ _)
  rw [e1] at hown hnews ⊢
  exact wpList_append_gx hgd s x t tx ho e i z size bytes ht htx hi hz hsize hby hzs hsz g1 _ n xs hs hown ha hf ad m c news hx hl hnews h1 hm h63 hbytes h
/-- an own block becomes a part that stays -/
theorem G.frz {w0 : World} {X : List Nat} {b : Nat} {T : TypeId} {cs : List Value} {M : List Blk} {I : List Frag} (g : G w0 X ((b, T, cs) :: M) I) (hb : w0.heap.size ≤ b) : ∃ g' : G w0 X M (blkF b (.cells cs.toArray T (0, 0)) :: I), g.w = g'.w := by
  obtain ⟨g2, h⟩ := g.less (M' := M) (List.sublist_cons_self _ _)
  have hd := g.dist
  rw [List.map_cons, List.nodup_cons] at hd
  refine ⟨g2.see (blkF b (.cells cs.toArray T (0, 0))) (by rw [← h]; exact blkF_sub g.blk0) (fun k o hk => ?_), h⟩
  rw [blkF_at hk]
  exact ⟨.inl hb, hd.1⟩
end
end Go.Proofs.YtjdnpkicdmapnaaGreatDoor.GW
namespace Go.Proofs.YtjdnpkicdmapnaaGreatDoor.NL
open Go
/-- k bits are still to be looked at: the rest R, the divisor shifted D, the quotient so far Q -/
structure Qb (a b k R Q : Nat) : Prop where
  eq : R + b * Q = a
  lt : R < b * 2 ^ k
  dvd : Q % 2 ^ k = 0
theorem Qb.start {a b n : Nat} (hb : b ≠ 0) (hn : nb a = nb b + n) : Qb a b (n + 1) a 0 := by
  refine ⟨by omega, ?_, Nat.zero_mod _⟩
  have h1 := nb_lt a
  have h2 := nb_ge hb
  have h3 := nb_pos hb
  rw [hn] at h1
  have e : 2 ^ (nb b + n) = 2 ^ (nb b - 1) * 2 ^ (n + 1) := by rw [← Nat.pow_add]; congr 1; omega
  rw [e] at h1
  exact Nat.lt_of_lt_of_le h1 (Nat.mul_le_mul_right _ h2)
theorem Qb.keep {a b k R Q : Nat} (h : Qb a b (k + 1) R Q) (hlt : R < b * 2 ^ k) : Qb a b k R Q := by
  refine ⟨h.eq, hlt, ?_⟩
  have := h.dvd
  rw [Nat.pow_succ] at this
  have e := Nat.mod_mul_right_mod Q (2 ^ k) 2
  rw [this, Nat.zero_mod] at e
  exact e.symm
theorem Qb.sub {a b k R Q : Nat} (h : Qb a b (k + 1) R Q) (hge : b * 2 ^ k ≤ R) : Qb a b k (R - b * 2 ^ k) (Q + 2 ^ k) := by
  have h1 := h.eq
  have h2 := h.lt
  rw [Nat.pow_succ, ← Nat.mul_assoc] at h2
  refine ⟨?_, by omega, ?_⟩
  · rw [Nat.mul_add]; omega
  · have := h.dvd
    rw [Nat.pow_succ] at this
    have e := Nat.mod_mul_right_mod Q (2 ^ k) 2
    rw [this, Nat.zero_mod] at e
    rw [Nat.add_mod_right]
    exact e.symm
theorem Qb.stop {a b R Q : Nat} (h : Qb a b 0 R Q) : Q = a / b ∧ R = a % b := by
  have h1 := h.eq
  have h2 := h.lt
  rw [Nat.pow_zero, Nat.mul_one] at h2
  have hb : 0 < b := by omega
  constructor
  · rw [← h1, Nat.add_mul_div_left _ _ hb, Nat.div_eq_of_lt h2, Nat.zero_add]
  · rw [← h1, Nat.add_mul_mod_self_left, Nat.mod_eq_of_lt h2]
/-- a bit that is set -/
theorem bit_set {q : List Nat} {k : Nat} (ho : Ok q) (hj : k / 32 < q.length) (hd : val q % 2 ^ (k + 1) = 0) :
    (q.getD (k / 32) 0) % 2 ^ (k % 32 + 1) = 0 ∧ q.getD (k / 32) 0 + 2 ^ (k % 32) < 4294967296 ∧ val (q.set (k / 32) (q.getD (k / 32) 0 + 2 ^ (k % 32))) = val q + 2 ^ k := by
  have hg := getD_val q ho (k / 32)
  obtain ⟨j, hj'⟩ : ∃ j, k / 32 = j := ⟨_, rfl⟩
  obtain ⟨r, hr⟩ : ∃ r, k % 32 = r := ⟨_, rfl⟩
  rw [hj'] at hg hj ⊢
  rw [hr]
  have hk : k = 32 * j + r := by omega
  have hr32 : r < 32 := by omega
  obtain ⟨t, ht⟩ : ∃ t, val q = 2 ^ (k + 1) * t := ⟨val q / 2 ^ (k + 1), by have := Nat.div_add_mod (val q) (2 ^ (k + 1)); omega⟩
  have hq : val q / 4294967296 ^ j = 2 ^ (r + 1) * t := by
    rw [ht, pow32, hk, show 32 * j + r + 1 = 32 * j + (r + 1) by omega, Nat.pow_add, Nat.mul_assoc, Nat.mul_div_cancel_left _ (Nat.two_pow_pos _)]
  have hB : (4294967296 : Nat) = 2 ^ (r + 1) * 2 ^ (31 - r) := by
    rw [← Nat.pow_add, show r + 1 + (31 - r) = 32 by omega]
  have h1 : q.getD j 0 = 2 ^ (r + 1) * (t % 2 ^ (31 - r)) := by
    rw [hg, hq]
    conv => lhs; rw [hB]
    rw [Nat.mul_mod_mul_left]
  have h2 := Nat.mod_lt t (Nat.two_pow_pos (31 - r))
  have h3 : 2 ^ (r + 1) * (t % 2 ^ (31 - r)) + 2 ^ (r + 1) ≤ 4294967296 := by
    have := Nat.mul_le_mul_left (2 ^ (r + 1)) (Nat.succ_le_of_lt h2)
    rw [Nat.mul_succ, ← hB] at this
    exact this
  have h4 : 2 ^ (r + 1) = 2 * 2 ^ r := by rw [Nat.pow_succ, Nat.mul_comm]
  have h5 := Nat.two_pow_pos r
  refine ⟨by rw [h1, Nat.mul_mod_right], by rw [h1]; omega, ?_⟩
  have hv := val_set' hj (q.getD j 0 + 2 ^ r)
  rw [Nat.mul_add] at hv
  have h6 : 4294967296 ^ j * 2 ^ r = 2 ^ k := by rw [pow32, ← Nat.pow_add, hk]
  rw [h6] at hv
  omega
end Go.Proofs.YtjdnpkicdmapnaaGreatDoor.NL
namespace Go.Proofs.YtjdnpkicdmapnaaGreatDoor.GW
open Go
open Go.RowKit
section
variable {w0 : World} {X : List Nat} {R : List Blk} {I : List Frag}
theorem wpList_append_str {P : Program} {ops : Array Oper} {rest : List Oper} {o : Oper} {a : Act} {Q : Exit → Act → World → Prop} (hgd : o.guard = none) (sl x : Operand) (t u : TypeId)
    (ho : o.op = .call { callee := .builtin .append, args := #[sl, x], argTypes := #[t, u] })
    (e : TypeId) (i : TypeInfo) (ht : P.underlying t = some (.slice e)) (hu : P.underlying u = some .string) (hi : P.info? e = some i) (hsize : i.size = 1)
    {b n cap : Nat} {cs xs : List Value} (g : G w0 X ((b, e, cs) :: R) I) (hr : Row e 1 n xs cap cs) (hb : w0.heap.size ≤ b) (hs : a.eval sl = .slice (some ⟨b, 0, none⟩) n cap) (s : ByteArray) (hx : a.eval x = .string s)
    (h1 : 0 < cap) (hroom : n + s.size ≤ cap)
    (h : ∀ cs, ∀ g' : G w0 X ((b, e, cs) :: R) I, Row e 1 (n + s.size) (xs ++ Lib.strCells s) cap cs → wpList P ops Q rest (a.put o.dst (.slice (some ⟨b, 0, none⟩) (n + s.size) cap)) g'.w) :
    wpList P ops Q (o :: rest) a g.w := by
  have hown := g.rowAt hr (List.mem_cons_self ..) hb
  refine Lib.wpList_append_fits_string _ hgd sl x t u ho w0.heap.size e i ht hu hi hsize _ n cap xs hs hown s hx h1 hroom ?_
  intro w' ho' hg
  have hap := g.apart
  obtain ⟨g1, e1⟩ := g.less (M' := R) (List.sublist_cons_self _ _)
  rw [e1] at hg
  rcases ho'.2 with ⟨e1, e2⟩ | ⟨b2, cap2, cur, he, hb0, hh, hle, hmx, hcl, hct⟩
  · cases e1
  · cases he
    obtain ⟨g', rfl⟩ := g1.grow (cs := cur.toList) hg (fun k hk => by cases hk; exact hb) hap.1 hap.2 (.inl rfl) (by rw [Array.toArray_toList]; exact hh)
    exact h cur.toList g' ⟨hle, hmx, by rw [Array.length_toList]; exact hcl, hct, ho'.1⟩
end
end Go.Proofs.YtjdnpkicdmapnaaGreatDoor.GW
