/- Plain facts and contracts of functions of the program, out of walks. Their conditions stand ahead of each. -/
import Derived.Test.YtcaaecmbbbdopaaDs4
import Derived.Below
import Derived.Deep.Draws
import Derived.Laws.NewBlocks
import Derived.Laws.OwnMore
import Derived.Laws.Rows
import Derived.Maps.AppendAt
import Derived.WalkKit
set_option linter.unusedVariables false
set_option linter.unusedSimpArgs false
namespace Go.Proofs.Ytcaaecmbbbdopaa.GW
open Go
open Go.RowKit
section
variable {w0 : World} {X : List Nat} {R : List Blk} {I : List Frag}
theorem G.grow (g : G w0 X R I) {w' : World} {row : Option Nat} {b : Nat} {T : TypeId} {cs : List Value} (h : g.w.grownBy w' row) (hrow : ∀ k, row = some k → w0.heap.size ≤ k)
    (hne : ∀ m ∈ R, some m.1 ≠ row) (hfr : ∀ f ∈ I, ∀ k o, f k = some o → some k ≠ row) (hb : row = some b ∨ b = g.w.heap.size) (hh : w'.heap[b]? = some (.cells cs.toArray T (0, 0))) :
    ∃ g' : G w0 X ((b, T, cs) :: R) I, w' = g'.w := by
  have hw : w0.heap.size ≤ b := by
    rcases hb with hb | hb
    · exact hrow b hb
    · rw [hb]; exact g.chg.size
  have hR : ∀ m ∈ R, m.1 ≠ b := by
    intro m hm e
    rcases hb with hb | hb
    · exact hne m hm (by rw [hb, e])
    · have := g.lt hm; omega
  have hF : ∀ f ∈ I, ∀ k o, f k = some o → k ≠ b := by
    intro f hf k o hk e
    rcases hb with hb | hb
    · exact hfr f hf k o hk (by rw [hb, e])
    · have := Frag.lt (g.sub f hf) hk; omega
  refine ⟨⟨w', ⟨h.os.trans g.chg.os, h.tape.trans g.chg.tape, h.output.trans g.chg.output, Nat.le_trans g.chg.size h.size, ?_⟩, ?_, ?_, ?_, ?_, ?_⟩, rfl⟩
  · intro k hk hx
    rw [h.block k (Nat.lt_of_lt_of_le hk g.chg.size) (fun e => by have := hrow k e.symm; omega)]
    exact g.chg.block k hk hx
  · intro m hm
    rcases List.mem_cons.1 hm with rfl | hm
    · exact hh
    · rw [h.block _ (g.lt hm) (hne m hm)]; exact g.own m hm
  · intro m hm
    rcases List.mem_cons.1 hm with rfl | hm
    · exact .inl hw
    · exact g.may m hm
  · rw [List.map_cons, List.nodup_cons]
    refine ⟨?_, g.dist⟩
    intro hm
    obtain ⟨m, hm, e⟩ := List.mem_map.1 hm
    exact hR m hm e
  · intro f hf k o hk
    rw [h.block k (Frag.lt (g.sub f hf) hk) (hfr f hf k o hk)]
    exact g.sub f hf k o hk
  · intro f hf k o hk
    refine ⟨(g.keep f hf k o hk).1, ?_⟩
    rw [List.map_cons, List.mem_cons]
    rintro (e | e)
    · exact hF f hf k o hk e
    · exact (g.keep f hf k o hk).2 e
/-- a slice that the walk owns and that reads as xs -/
structure Row (e : TypeId) (size n : Nat) (xs : List Value) (cap : Nat) (cs : List Value) : Prop where
  le : n ≤ cap
  max : cap ≤ maxLen
  len : cs.length = cap * size
  take : cs.take (n * size) = xs
  xl : xs.length = n * size
theorem wpList_append_g {P : Program} {ops : Array Oper} {rest : List Oper} {o : Oper} {a : Act} {Q : Exit → Act → World → Prop} (hgd : o.guard = none) (s x : Operand) (t : TypeId)
    (ho : o.op = .call { callee := .builtin .append, args := #[s, x], argTypes := #[t, t] })
    (e : TypeId) (i : TypeInfo) (z : Value) (size bytes : Nat) (ht : P.underlying t = some (.slice e)) (hi : P.info? e = some i) (hz : i.zero = some z)
    (hsize : i.size = size) (hby : i.bytes = bytes) (hzs : z.cells.size = size) (hsz : 0 < size)
    (g : G w0 X R I) (v : Value) (n : Nat) (xs : List Value) (hs : a.eval s = v) (hown : g.w.ownsRow w0.heap.size e size v n xs)
    (hne : ∀ m ∈ R, some m.1 ≠ v.ownBlock) (hfr : ∀ f ∈ I, ∀ k o, f k = some o → some k ≠ v.ownBlock)
    (ad : Addr) (m c : Nat) (news : List Value) (hx : a.eval x = .slice (some ad) m c) (hl : news.length = m * size) (hnews : ∀ j u, news[j]? = some u → g.w.cell? (ad.add j) = some u) (h1 : ∀ u ∈ news, u.oneCell' = true)
    (hm : 0 < m) (h63 : n + m ≤ maxLen) (hbytes : (n + m) * bytes ≤ 140737488355328)
    (h : ∀ b cap cs, ∀ g' : G w0 X ((b, e, cs) :: R) I, w0.heap.size ≤ b → Row e size (n + m) (xs ++ news) cap cs → wpList P ops Q rest (a.put o.dst (.slice (some ⟨b, 0, none⟩) (n + m) cap)) g'.w) :
    wpList P ops Q (o :: rest) a g.w := by
  refine wpList_append_own_at _ hgd s x t ho w0.heap.size e i z size bytes ht hi hz hsize hby hzs hsz v n xs hs hown ad m c news hx hl hnews h1 h63 hbytes g.chg.size ?_
  intro v' w' ho' hg hv hb
  rcases ho'.2 with ⟨e1, e2⟩ | ⟨b, cap, cur, rfl, hb0, hh, hle, hmx, hcl, hct⟩
  · exfalso; omega
  · have hrow : ∀ k, v.ownBlock = some k → w0.heap.size ≤ k := fun k hk => (hown.lt k hk).1
    have hb' : v.ownBlock = some b ∨ b = g.w.heap.size := by
      rcases hb with hb | hb
      · exact .inl hb.symm
      · right; exact Option.some.inj hb
    obtain ⟨g', rfl⟩ := g.grow (cs := cur.toList) hg hrow hne hfr hb' (by rw [Array.toArray_toList]; exact hh)
    exact h b cap cur.toList g' hb0 ⟨hle, hmx, by rw [Array.length_toList]; exact hcl, hct, ho'.1⟩
theorem G.rowNil (g : G w0 X R I) (e : TypeId) (size : Nat) : g.w.ownsRow w0.heap.size e size (.slice Option.none 0 0) 0 [] := World.ownsRow_nil _ _ _ _
theorem G.rowAt (g : G w0 X R I) {e : TypeId} {size n cap b : Nat} {xs cs : List Value} (h : Row e size n xs cap cs) (hm : (b, e, cs) ∈ R) (hb : w0.heap.size ≤ b) : g.w.ownsRow w0.heap.size e size (.slice (some ⟨b, 0, Option.none⟩) n cap) n xs :=
  ⟨h.xl, .inr ⟨b, cap, cs.toArray, rfl, hb, g.own _ hm, h.le, h.max, by rw [List.size_toArray]; exact h.len, h.take⟩⟩
/-- the row at the head of the blocks is forgotten, its world stays -/
theorem G.apart {b : Nat} {T : TypeId} {cs : List Value} (g : G w0 X ((b, T, cs) :: R) I) : (∀ m ∈ R, some m.1 ≠ some b) ∧ (∀ f ∈ I, ∀ k o, f k = some o → some k ≠ some b) := by
  constructor
  · intro m hm e
    have := g.dist
    rw [List.map_cons, List.nodup_cons] at this
    exact this.1 (List.mem_map.2 ⟨m, hm, Option.some.inj e⟩)
  · intro f hf k o hk e
    exact (g.keep f hf k o hk).2 (by rw [List.map_cons, List.mem_cons]; exact .inl (Option.some.inj e))
theorem add_off (b j : Nat) : (⟨b, 0, none⟩ : Addr).add j = ⟨b, j, none⟩ := by
  unfold Addr.add; split
  · next h => subst h; rfl
  · simp
/-- 'append' of what was written out, to a slice that is nil -/
theorem wpList_append_lit0 {P : Program} {ops : Array Oper} {rest : List Oper} {o : Oper} {a : Act} {Q : Exit → Act → World → Prop} (hgd : o.guard = none) (s x : Operand) (t : TypeId)
    (ho : o.op = .call { callee := .builtin .append, args := #[s, x], argTypes := #[t, t] })
    (e : TypeId) (i : TypeInfo) (z : Value) (size bytes : Nat) (ht : P.underlying t = some (.slice e)) (hi : P.info? e = some i) (hz : i.zero = some z)
    (hsize : i.size = size) (hby : i.bytes = bytes) (hzs : z.cells.size = size) (hsz : 0 < size)
    {bs : Nat} {news : List Value} (g : G w0 X ((bs, e, news) :: R) I) (hs : a.eval s = .slice none 0 0) (m : Nat) (hx : a.eval x = .slice (some ⟨bs, 0, none⟩) m m) (hl : news.length = m * size) (h1 : ∀ u ∈ news, u.oneCell' = true)
    (hm : 0 < m) (h63 : m ≤ maxLen) (hbytes : m * bytes ≤ 140737488355328)
    (h : ∀ b cap cs, ∀ g' : G w0 X ((b, e, cs) :: R) I, w0.heap.size ≤ b → Row e size m news cap cs → wpList P ops Q rest (a.put o.dst (.slice (some ⟨b, 0, none⟩) m cap)) g'.w) :
    wpList P ops Q (o :: rest) a g.w := by
  refine wpList_append_g hgd s x t ho e i z size bytes ht hi hz hsize hby hzs hsz g _ 0 [] hs (g.rowNil e size) (by intro m _ h; cases h) (by intro f _ k o _ h; cases h) ⟨bs, 0, none⟩ m m news hx hl ?_ h1 hm (by omega) (by rw [Nat.zero_add]; exact hbytes) ?_
  · intro j u hj
    have := g.own _ (List.mem_cons_self ..)
    simp only at this
    rw [add_off]
    simp [World.cell?, this, hj]
  · intro b cap cs g' hb hr
    obtain ⟨g2, e2⟩ := g'.less (M' := (b, e, cs) :: R) (by exact (List.sublist_cons_self _ _).cons_cons _)
    rw [e2]
    rw [Nat.zero_add] at *
    exact h b cap cs g2 hb (by simpa using hr)
/-- 'append' of what was written out, to a slice that the walk owns -/
theorem wpList_append_lit {P : Program} {ops : Array Oper} {rest : List Oper} {o : Oper} {a : Act} {Q : Exit → Act → World → Prop} (hgd : o.guard = none) (s x : Operand) (t : TypeId)
    (ho : o.op = .call { callee := .builtin .append, args := #[s, x], argTypes := #[t, t] })
    (e : TypeId) (i : TypeInfo) (z : Value) (size bytes : Nat) (ht : P.underlying t = some (.slice e)) (hi : P.info? e = some i) (hz : i.zero = some z)
    (hsize : i.size = size) (hby : i.bytes = bytes) (hzs : z.cells.size = size) (hsz : 0 < size)
    {bs b n cap : Nat} {news cs xs : List Value} (g : G w0 X ((bs, e, news) :: (b, e, cs) :: R) I) (hr : Row e size n xs cap cs) (hb : w0.heap.size ≤ b) (hs : a.eval s = .slice (some ⟨b, 0, none⟩) n cap) (m : Nat) (hx : a.eval x = .slice (some ⟨bs, 0, none⟩) m m) (hl : news.length = m * size) (h1 : ∀ u ∈ news, u.oneCell' = true)
    (hm : 0 < m) (h63 : n + m ≤ maxLen) (hbytes : (n + m) * bytes ≤ 140737488355328)
    (h : ∀ b cap cs, ∀ g' : G w0 X ((b, e, cs) :: R) I, w0.heap.size ≤ b → Row e size (n + m) (xs ++ news) cap cs → wpList P ops Q rest (a.put o.dst (.slice (some ⟨b, 0, none⟩) (n + m) cap)) g'.w) :
    wpList P ops Q (o :: rest) a g.w := by
  have hown := g.rowAt hr (List.mem_cons_of_mem _ (List.mem_cons_self ..)) hb
  have hd := g.dist
  have hk := g.keep
  obtain ⟨g1, e1⟩ := g.less (M' := (bs, e, news) :: R) (by exact (List.sublist_cons_self _ _).cons_cons _)
  rw [e1] at hown ⊢
  rw [List.map_cons, List.map_cons, List.nodup_cons, List.nodup_cons, List.mem_cons] at hd
  refine wpList_append_g hgd s x t ho e i z size bytes ht hi hz hsize hby hzs hsz g1 _ n xs hs hown ?_ ?_ ⟨bs, 0, none⟩ m m news hx hl ?_ h1 hm h63 hbytes ?_
  · intro m hm e'
    have e3 : m.1 = b := Option.some.inj e'
    rcases List.mem_cons.1 hm with rfl | hm
    · exact hd.1 (.inl e3)
    · exact hd.2.1 (List.mem_map.2 ⟨m, hm, e3⟩)
  · intro f hf k o hk' e'
    have e3 : k = b := Option.some.inj e'
    exact (hk f hf k o hk').2 (by rw [List.map_cons, List.map_cons, List.mem_cons, List.mem_cons]; exact .inr (.inl e3))
  · intro j u hj
    have := g1.own _ (List.mem_cons_self ..)
    simp only at this
    rw [add_off]
    simp [World.cell?, this, hj]
  · intro b cap cs g' hb hr
    obtain ⟨g2, e2⟩ := g'.less (M' := (b, e, cs) :: R) (by exact (List.sublist_cons_self _ _).cons_cons _)
    rw [e2]
    exact h b cap cs g2 hb hr
end
end Go.Proofs.Ytcaaecmbbbdopaa.GW
namespace Go.Proofs.Ytcaaecmbbbdopaa.GW
open Go
open Go.RowKit NL
section
variable {w0 : World} {X : List Nat} {R : List Blk} {I : List Frag}
theorem Row.empty (e : TypeId) (size : Nat) : Row e size 0 [] 0 [] := ⟨Nat.le_refl _, by decide, by simp, by simp, by simp⟩
theorem wpList_append_e {P : Program} {ops : Array Oper} {rest : List Oper} {o : Oper} {a : Act} {Q : Exit → Act → World → Prop} (hgd : o.guard = none) (s x : Operand) (t : TypeId)
    (ho : o.op = .call { callee := .builtin .append, args := #[s, x], argTypes := #[t, t] })
    (e : TypeId) (i : TypeInfo) (z : Value) (size bytes : Nat) (ht : P.underlying t = some (.slice e)) (hi : P.info? e = some i) (hz : i.zero = some z)
    (hsize : i.size = size) (hby : i.bytes = bytes) (hzs : z.cells.size = size) (hsz : 0 < size)
    {bk : Nat} (g : G w0 X ((bk, e, []) :: R) I) (hb : w0.heap.size ≤ bk) (hs : a.eval s = .slice (some ⟨bk, 0, none⟩) 0 0)
    (ad : Addr) (m c : Nat) (news : List Value) (hx : a.eval x = .slice (some ad) m c) (hl : news.length = m * size) (hnews : ∀ j u, news[j]? = some u → g.w.cell? (ad.add j) = some u) (h1 : ∀ u ∈ news, u.oneCell' = true)
    (hm : 0 < m) (h63 : m ≤ maxLen) (hbytes : m * bytes ≤ 140737488355328)
    (h : ∀ b cap cs, ∀ g' : G w0 X ((b, e, cs) :: R) I, w0.heap.size ≤ b → Row e size m news cap cs → wpList P ops Q rest (a.put o.dst (.slice (some ⟨b, 0, none⟩) m cap)) g'.w) :
    wpList P ops Q (o :: rest) a g.w := by
  have hown := g.rowAt (Row.empty e size) (List.mem_cons_self ..) hb
  have hap := g.apart
  obtain ⟨g1, e1⟩ := g.less (M' := R) (List.sublist_cons_self _ _)
  rw [e1] at hown hnews ⊢
  refine wpList_append_g hgd s x t ho e i z size bytes ht hi hz hsize hby hzs hsz g1 _ 0 [] hs hown hap.1 hap.2 ad m c news hx hl hnews h1 hm (by omega) (by rw [Nat.zero_add]; exact hbytes) ?_
  intro b cap cs g' hb' hr
  rw [Nat.zero_add] at *
  exact h b cap cs g' hb' (by simpa using hr)
end
theorem sl_row {b cap n : Nat} {T : TypeId} {cs : List Value} {l : List Nat} (h : Row T 1 n (u32s l) cap cs) (hn : l.length = n) (hlen : n ≤ 140737488355328) (hk : Ok l) : (blkF b (.cells cs.toArray T (0, 0))).Sl (some ⟨b, 0, none⟩) cap l := by
  refine ⟨by rw [hn]; exact h.le, h.max, by omega, ?_, hk⟩
  intro hl
  refine ⟨b, 0, rfl, cs.toArray, T, (0, 0), by simp [blkF], fun j hj => ?_⟩
  rw [Nat.zero_add, List.getElem?_toArray, ← u32s_getD hj, ← h.take, List.getElem?_take_of_lt (by omega)]
/-- the cells of a slice of limbs, read as a list -/
theorem lim_news {F : Frag} {b o : Nat} {l : List Nat} {w0 : World} {X : List Nat} {M : List Blk} {I : List Frag} (g : G w0 X M I) (hF : F ∈ I) (h : F.Lim (some ⟨b, o, none⟩) l) : ∀ j u, (u32s l)[j]? = some u → g.w.cell? ((⟨b, o, none⟩ : Addr).add j) = some u := by
  intro j u hj
  have hl : j < l.length := by
    rw [← u32s_len l]
    exact (List.getElem?_eq_some_iff.1 hj).1
  obtain ⟨b', o', e, hc⟩ := g.cell_of hF h (by omega)
  cases e
  rw [u32s_getD hl] at hj
  cases hj
  have ea : (⟨b, o, none⟩ : Addr).add j = ⟨b, o + j, none⟩ := by
    unfold Addr.add
    split
    · next h0 => subst h0; rfl
    · rfl
  rw [ea]
  exact hc j hl
end Go.Proofs.Ytcaaecmbbbdopaa.GW
namespace Go.Proofs.Ytcaaecmbbbdopaa.GW
open Go
open Go.RowKit NL
/-- a call that makes two parts -/
theorem G.new2_ex {w0 : World} {X : List Nat} {M : List Blk} {I : List Frag} (g : G w0 X M I) {w1 : World} {F1 F2 : Frag} (h1 : New g.w w1 F1) (h2 : New g.w w1 F2) : ∃ g' : G w0 X M (F1 :: F2 :: I), w1 = g'.w := by
  obtain ⟨g', rfl⟩ := g.new_ex h2
  refine ⟨g'.see F1 h1.sub fun k o hk => ⟨.inl (Nat.le_trans g.chg.size (h1.new k o hk)), fun hm => ?_⟩, rfl⟩
  obtain ⟨m, hm2, e⟩ := List.mem_map.1 hm
  have := g.lt hm2
  have := h1.new k o hk
  omega
/-- two numbers in new memory -/
def RNN (q r : Nat) (w : World) (e : Ending) (w' : World) : Prop := ∃ A1 c1 F1 A2 c2 F2, e = .returned (.tuple #[.slice A1 (limbs q).length c1, .slice A2 (limbs r).length c2]) ∧ F1.Sl A1 c1 (limbs q) ∧ F2.Sl A2 c2 (limbs r) ∧ New w w' F1 ∧ New w w' F2
theorem G.lessI {w0 : World} {X : List Nat} {M : List Blk} {I I' : List Frag} (g : G w0 X M I) (h : ∀ f ∈ I', f ∈ I) : ∃ g' : G w0 X M I', g.w = g'.w :=
  ⟨⟨g.w, g.chg, g.own, g.may, g.dist, fun f hf => g.sub f (h f hf), fun f hf => g.keep f (h f hf)⟩, rfl⟩
end Go.Proofs.Ytcaaecmbbbdopaa.GW
namespace Go.Proofs.Ytcaaecmbbbdopaa.GW
open Go
open Go.RowKit NL
/-- ints as cells -/
def i64s (l : List Int) : List Value := l.map fun x : Int => .int .i64 x
theorem i64s_len (l : List Int) : (i64s l).length = l.length := by simp [i64s]
theorem i64s_get (l : List Int) (j : Nat) : (i64s l)[j]? = (l[j]?).map fun x : Int => Value.int .i64 x := by simp [i64s]
theorem i64s_getD {l : List Int} {j : Nat} (h : j < l.length) : (i64s l)[j]? = some (.int .i64 (l.getD j 0)) := by
  rw [i64s_get, List.getD_eq_getElem?_getD, List.getElem?_eq_getElem h]; rfl
theorem i64s_append (l m : List Int) : i64s (l ++ m) = i64s l ++ i64s m := by simp [i64s]
theorem i64s_set (l : List Int) (j : Nat) (x : Int) : (i64s l).set j (.int .i64 x) = i64s (l.set j x) := by
  unfold i64s; rw [List.map_set]
theorem i64s_one (l : List Int) : ∀ u ∈ i64s l, u.oneCell' = true := by
  intro u hu
  obtain ⟨x, _, rfl⟩ := List.mem_map.1 hu
  rfl
/-- In part f, the slice at A reads as the ints l. -/
def Frag.Ints (f : Frag) (A : Option Addr) (l : List Int) : Prop :=
  0 < l.length → ∃ b o, A = some ⟨b, o, none⟩ ∧ ∃ cs T fr, f b = some (.cells cs T fr) ∧ ∀ j, j < l.length → cs[o + j]? = some (.int .i64 (l.getD j 0))
structure Frag.Si (f : Frag) (A : Option Addr) (c : Nat) (l : List Int) : Prop where
  cap : l.length ≤ c
  max : c ≤ 9223372036854775807
  len : l.length ≤ 140737488355328
  ints : f.Ints A l
  ok : ∀ j, -9223372036854775808 ≤ l.getD j 0 ∧ l.getD j 0 < 9223372036854775808
@[reducible] def SiW (w : World) (A : Option Addr) (c : Nat) (l : List Int) : Prop := (heapOf w).Si A c l
theorem Frag.Ints.mono {f f' : Frag} {A : Option Addr} {l : List Int} (h : f.Ints A l) (s : ∀ k o, f k = some o → f' k = some o) : f'.Ints A l := by
  intro hl
  obtain ⟨b, o, e, cs, T, fr, hb, hc⟩ := h hl
  exact ⟨b, o, e, cs, T, fr, s _ _ hb, hc⟩
theorem Frag.Si.mono {f f' : Frag} {A : Option Addr} {c : Nat} {l : List Int} (h : f.Si A c l) (s : ∀ k o, f k = some o → f' k = some o) : f'.Si A c l :=
  ⟨h.cap, h.max, h.len, h.ints.mono s, h.ok⟩
theorem Frag.Si.at {f : Frag} {w : World} {A : Option Addr} {c : Nat} {l : List Int} (h : f.Si A c l) (s : f.sub w) : SiW w A c l := h.mono s
theorem intsW_cell {w : World} {A : Option Addr} {l : List Int} (h : (heapOf w).Ints A l) (hl : 0 < l.length) : ∃ b o, A = some ⟨b, o, none⟩ ∧ ∀ j, j < l.length → w.cell? ⟨b, o + j, none⟩ = some (.int .i64 (l.getD j 0)) := by
  obtain ⟨b, o, e, cs, T, fr, hb, hc⟩ := h hl
  refine ⟨b, o, e, fun j hj => ?_⟩
  have : w.heap[b]? = some (.cells cs T fr) := hb
  simp only [World.cell?, this]
  exact hc j hj
theorem Frag.Ints.cell {f : Frag} {A : Option Addr} {l : List Int} (h : f.Ints A l) (hl : 0 < l.length) : ∃ b o, A = some ⟨b, o, none⟩ ∧ ∀ j, j < l.length → f.cell ⟨b, o + j, none⟩ = some (.int .i64 (l.getD j 0)) := by
  obtain ⟨b, o, e, cs, T, fr, hb, hc⟩ := h hl
  refine ⟨b, o, e, fun j hj => ?_⟩
  unfold Frag.cell
  simp only [hb]
  exact hc j hj
section
variable {w0 : World} {X : List Nat} {M : List Blk} {I : List Frag}
theorem G.si (g : G w0 X M I) {f : Frag} (hf : f ∈ I) {A : Option Addr} {c : Nat} {l : List Int} (h : f.Si A c l) : SiW g.w A c l := h.at (g.sub f hf)
/-- a slice of ints in a block that the walk owns -/
theorem siM (g : G w0 X M I) {b : Nat} {T : TypeId} {l : List Int} {c : Nat} (hm : (b, T, i64s l) ∈ M) (hc : l.length ≤ c) (hx : c ≤ 140737488355328) (ok : ∀ j, -9223372036854775808 ≤ l.getD j 0 ∧ l.getD j 0 < 9223372036854775808) : SiW g.w (some ⟨b, 0, none⟩) c l := by
  refine ⟨hc, by omega, by omega, fun hl => ⟨b, 0, rfl, _, T, _, g.own _ hm, fun j hj => ?_⟩, ok⟩
  show (i64s l).toArray[0 + j]? = _
  rw [Nat.zero_add, List.getElem?_toArray]
  exact i64s_getD hj
theorem si_row {b cap n : Nat} {T : TypeId} {cs : List Value} {l : List Int} (h : Row T 1 n (i64s l) cap cs) (hn : l.length = n) (hlen : n ≤ 140737488355328) (hk : ∀ j, -9223372036854775808 ≤ l.getD j 0 ∧ l.getD j 0 < 9223372036854775808) : (blkF b (.cells cs.toArray T (0, 0))).Si (some ⟨b, 0, none⟩) cap l := by
  refine ⟨by rw [hn]; exact h.le, h.max, by omega, ?_, hk⟩
  intro hl
  refine ⟨b, 0, rfl, cs.toArray, T, (0, 0), by simp [blkF], fun j hj => ?_⟩
  rw [Nat.zero_add, List.getElem?_toArray, ← i64s_getD hj, ← h.take, List.getElem?_take_of_lt (by omega)]
theorem si_blk {b : Nat} {T : TypeId} {l : List Int} {fr : Nat × Nat} {c : Nat} (h : l.length ≤ c) (hc : c ≤ 140737488355328) (hk : ∀ j, -9223372036854775808 ≤ l.getD j 0 ∧ l.getD j 0 < 9223372036854775808) : (blkF b (.cells (i64s l).toArray T fr)).Si (some ⟨b, 0, none⟩) c l :=
  ⟨h, by omega, by omega, fun hl => ⟨b, 0, rfl, (i64s l).toArray, T, fr, by simp [blkF], fun j hj => by rw [Nat.zero_add, List.getElem?_toArray]; exact i64s_getD hj⟩, hk⟩
end
theorem ints_news {F : Frag} {b o : Nat} {l : List Int} {w0 : World} {X : List Nat} {M : List Blk} {I : List Frag} (g : G w0 X M I) (hF : F ∈ I) (h : F.Ints (some ⟨b, o, none⟩) l) : ∀ j u, (i64s l)[j]? = some u → g.w.cell? ((⟨b, o, none⟩ : Addr).add j) = some u := by
  intro j u hj
  have hl : j < l.length := by
    rw [← i64s_len l]
    exact (List.getElem?_eq_some_iff.1 hj).1
  obtain ⟨b', o', e, hc⟩ := h.cell (by omega)
  cases e
  rw [i64s_getD hl] at hj
  cases hj
  have ea : (⟨b, o, none⟩ : Addr).add j = ⟨b, o + j, none⟩ := by
    unfold Addr.add
    split
    · next h0 => subst h0; rfl
    · rfl
  rw [ea]
  exact g.frag_cell hF (hc j hl)
theorem ints_cells {F : Frag} {A : Option Addr} {l : List Int} (h : F.Ints A l) (hl : 0 < l.length) : ∃ b o, A = some ⟨b, o, none⟩ ∧ ∀ j, j < l.length → ∀ (w0 : World) (X : List Nat) (M : List Blk) (I : List Frag) (g : G w0 X M I), F ∈ I → g.w.cell? ⟨b, o + j, none⟩ = some (.int .i64 (l.getD j 0)) := by
  obtain ⟨b, o, e, hc⟩ := h.cell hl
  exact ⟨b, o, e, fun j hj w0 X M I g hf => g.frag_cell hf (hc j hj)⟩
/-- samples as cells -/
def sps (l : List (Int × Int)) : List Value := l.flatMap fun p : Int × Int => [.int .i64 p.1, .int .i64 p.2]
theorem sps_nil : sps [] = [] := rfl
theorem sps_cons (p : Int × Int) (l : List (Int × Int)) : sps (p :: l) = .int .i64 p.1 :: .int .i64 p.2 :: sps l := rfl
theorem sps_append (l m : List (Int × Int)) : sps (l ++ m) = sps l ++ sps m := by simp [sps]
theorem sps_len : ∀ l : List (Int × Int), (sps l).length = l.length * 2
  | [] => rfl
  | p :: l => by rw [sps_cons]; simp [sps_len l]; omega
theorem sps_get1 : ∀ (l : List (Int × Int)) (j : Nat), j < l.length → (sps l)[j * 2]? = some (.int .i64 (l.getD j (0, 0)).1) ∧ (sps l)[j * 2 + 1]? = some (.int .i64 (l.getD j (0, 0)).2)
  | [], j, h => by simp at h
  | p :: l, 0, h => by rw [sps_cons]; simp
  | p :: l, j + 1, h => by
    have := sps_get1 l j (by simpa using h)
    rw [sps_cons, show (j + 1) * 2 = j * 2 + 1 + 1 by omega, show j * 2 + 1 + 1 + 1 = (j * 2 + 1) + 1 + 1 by omega]
    simpa using this
theorem sps_set : ∀ (l : List (Int × Int)) (j : Nat) (p : Int × Int), j < l.length → ((sps l).set (j * 2) (.int .i64 p.1)).set (j * 2 + 1) (.int .i64 p.2) = sps (l.set j p)
  | [], j, p, h => by simp at h
  | q :: l, 0, p, h => by rw [sps_cons]; simp [sps_cons]
  | q :: l, j + 1, p, h => by
    have := sps_set l j p (by simpa using h)
    rw [sps_cons, show (j + 1) * 2 = j * 2 + 1 + 1 by omega, show j * 2 + 1 + 1 + 1 = (j * 2 + 1) + 1 + 1 by omega, List.set_cons_succ, List.set_cons_succ, List.set_cons_succ, List.set_cons_succ, List.set_cons_succ, sps_cons, this]
def Frag.Sams (f : Frag) (A : Option Addr) (l : List (Int × Int)) : Prop :=
  0 < l.length → ∃ b o, A = some ⟨b, o, none⟩ ∧ ∃ cs T fr, f b = some (.cells cs T fr) ∧ ∀ j, j < l.length → cs[o + j * 2]? = some (.int .i64 (l.getD j (0, 0)).1) ∧ cs[o + j * 2 + 1]? = some (.int .i64 (l.getD j (0, 0)).2)
structure Frag.Sp (f : Frag) (A : Option Addr) (c : Nat) (l : List (Int × Int)) : Prop where
  cap : l.length ≤ c
  max : c ≤ 9223372036854775807
  len : l.length ≤ 140737488355328
  sams : f.Sams A l
@[reducible] def SpW (w : World) (A : Option Addr) (c : Nat) (l : List (Int × Int)) : Prop := (heapOf w).Sp A c l
theorem Frag.Sp.mono {f f' : Frag} {A : Option Addr} {c : Nat} {l : List (Int × Int)} (h : f.Sp A c l) (s : ∀ k o, f k = some o → f' k = some o) : f'.Sp A c l := by
  refine ⟨h.cap, h.max, h.len, fun hl => ?_⟩
  obtain ⟨b, o, e, cs, T, fr, hb, hc⟩ := h.sams hl
  exact ⟨b, o, e, cs, T, fr, s _ _ hb, hc⟩
theorem samsW_cell {w : World} {A : Option Addr} {l : List (Int × Int)} (h : (heapOf w).Sams A l) (hl : 0 < l.length) : ∃ b o, A = some ⟨b, o, none⟩ ∧ ∀ j, j < l.length → w.cell? ⟨b, o + j * 2, none⟩ = some (.int .i64 (l.getD j (0, 0)).1) ∧ w.cell? ⟨b, o + j * 2 + 1, none⟩ = some (.int .i64 (l.getD j (0, 0)).2) := by
  obtain ⟨b, o, e, cs, T, fr, hb, hc⟩ := h hl
  refine ⟨b, o, e, fun j hj => ?_⟩
  have : w.heap[b]? = some (.cells cs T fr) := hb
  simp only [World.cell?, this]
  exact hc j hj
theorem G.sp {w0 : World} {X : List Nat} {M : List Blk} {I : List Frag} (g : G w0 X M I) {f : Frag} (hf : f ∈ I) {A : Option Addr} {c : Nat} {l : List (Int × Int)} (h : f.Sp A c l) : SpW g.w A c l := h.mono (g.sub f hf)
theorem sp_blk {b : Nat} {T : TypeId} {l : List (Int × Int)} {fr : Nat × Nat} {c : Nat} (h : l.length ≤ c) (hc : c ≤ 140737488355328) : (blkF b (.cells (sps l).toArray T fr)).Sp (some ⟨b, 0, none⟩) c l :=
  ⟨h, by omega, by omega, fun hl => ⟨b, 0, rfl, (sps l).toArray, T, fr, by simp [blkF], fun j hj => by rw [Nat.zero_add, List.getElem?_toArray, List.getElem?_toArray]; exact sps_get1 l j hj⟩⟩
end Go.Proofs.Ytcaaecmbbbdopaa.GW
namespace Go.Proofs.Ytcaaecmbbbdopaa.GW
open Go
open Go.RowKit
section
variable {w0 : World} {X : List Nat} {R : List Blk} {I : List Frag}
theorem wp_append_g {P : Program} {o : Oper} {a : Act} {K : Act → World → Prop} {E : Exit → Act → World → Prop} (s x : Operand) (t : TypeId)
    (ho : o.op = .call { callee := .builtin .append, args := #[s, x], argTypes := #[t, t] })
    (e : TypeId) (i : TypeInfo) (z : Value) (size bytes : Nat) (ht : P.underlying t = some (.slice e)) (hi : P.info? e = some i) (hz : i.zero = some z)
    (hsize : i.size = size) (hby : i.bytes = bytes) (hzs : z.cells.size = size) (hsz : 0 < size)
    (g : G w0 X R I) (v : Value) (n : Nat) (xs : List Value) (hs : a.eval s = v) (hown : g.w.ownsRow w0.heap.size e size v n xs)
    (hne : ∀ m ∈ R, some m.1 ≠ v.ownBlock) (hfr : ∀ f ∈ I, ∀ k o, f k = some o → some k ≠ v.ownBlock)
    (ad : Addr) (m c : Nat) (news : List Value) (hx : a.eval x = .slice (some ad) m c) (hl : news.length = m * size) (hnews : ∀ j u, news[j]? = some u → g.w.cell? (ad.add j) = some u) (h1 : ∀ u ∈ news, u.oneCell' = true)
    (hm : 0 < m) (h63 : n + m ≤ maxLen) (hbytes : (n + m) * bytes ≤ 140737488355328)
    (h : ∀ b cap cs, ∀ g' : G w0 X ((b, e, cs) :: R) I, w0.heap.size ≤ b → Row e size (n + m) (xs ++ news) cap cs → K (a.put o.dst (.slice (some ⟨b, 0, none⟩) (n + m) cap)) g'.w) :
    o.wp P a g.w K E := by
  obtain ⟨v', w', hr, ho', hg, hv, hb⟩ := run_append_own_at (P := P) g.w w0.heap.size t o.type e i z size bytes ht hi hz hsize hby hzs hsz v n xs hown ad m c news hl hnews h1 h63 hbytes g.chg.size
  unfold Oper.wp execOp
  simp only [ho, resolve, invoke, builtin, Sem.run_bind, Sem.run_pure, Result.andThen_ok, List.map_toArray, List.map_cons, List.map_nil, hs, hx, hr]
  rcases ho'.2 with ⟨e1, e2⟩ | ⟨b, cap, cur, rfl, hb0, hh, hle, hmx, hcl, hct⟩
  · exfalso; omega
  · have hrow : ∀ k, v.ownBlock = some k → w0.heap.size ≤ k := fun k hk => (hown.lt k hk).1
    have hb' : v.ownBlock = some b ∨ b = g.w.heap.size := by
      rcases hb with hb | hb
      · exact .inl hb.symm
      · right; exact Option.some.inj hb
    obtain ⟨g', rfl⟩ := g.grow (cs := cur.toList) hg hrow hne hfr hb' (by rw [Array.toArray_toList]; exact hh)
    exact h b cap cur.toList g' hb0 ⟨hle, hmx, by rw [Array.length_toList]; exact hcl, hct, ho'.1⟩
theorem wp_append_lit {P : Program} {o : Oper} {a : Act} {K : Act → World → Prop} {E : Exit → Act → World → Prop} (s x : Operand) (t : TypeId)
    (ho : o.op = .call { callee := .builtin .append, args := #[s, x], argTypes := #[t, t] })
    (e : TypeId) (i : TypeInfo) (z : Value) (size bytes : Nat) (ht : P.underlying t = some (.slice e)) (hi : P.info? e = some i) (hz : i.zero = some z)
    (hsize : i.size = size) (hby : i.bytes = bytes) (hzs : z.cells.size = size) (hsz : 0 < size)
    {bs b n cap : Nat} {news cs xs : List Value} (g : G w0 X ((bs, e, news) :: (b, e, cs) :: R) I) (hr : Row e size n xs cap cs) (hb : w0.heap.size ≤ b) (hs : a.eval s = .slice (some ⟨b, 0, none⟩) n cap) (m : Nat) (hx : a.eval x = .slice (some ⟨bs, 0, none⟩) m m) (hl : news.length = m * size) (h1 : ∀ u ∈ news, u.oneCell' = true)
    (hm : 0 < m) (h63 : n + m ≤ maxLen) (hbytes : (n + m) * bytes ≤ 140737488355328)
    (h : ∀ b cap cs, ∀ g' : G w0 X ((b, e, cs) :: R) I, w0.heap.size ≤ b → Row e size (n + m) (xs ++ news) cap cs → K (a.put o.dst (.slice (some ⟨b, 0, none⟩) (n + m) cap)) g'.w) :
    o.wp P a g.w K E := by
  have hown := g.rowAt hr (List.mem_cons_of_mem _ (List.mem_cons_self ..)) hb
  have hd := g.dist
  have hk := g.keep
  obtain ⟨g1, e1⟩ := g.less (M' := (bs, e, news) :: R) (by exact (List.sublist_cons_self _ _).cons_cons _)
  rw [e1] at hown ⊢
  rw [List.map_cons, List.map_cons, List.nodup_cons, List.nodup_cons, List.mem_cons] at hd
  refine wp_append_g s x t ho e i z size bytes ht hi hz hsize hby hzs hsz g1 _ n xs hs hown ?_ ?_ ⟨bs, 0, none⟩ m m news hx hl ?_ h1 hm h63 hbytes ?_
  · intro m hm e'
    have e3 : m.1 = b := Option.some.inj e'
    rcases List.mem_cons.1 hm with rfl | hm
    · exact hd.1 (.inl e3)
    · exact hd.2.1 (List.mem_map.2 ⟨m, hm, e3⟩)
  · intro f hf k o hk' e'
    have e3 : k = b := Option.some.inj e'
    exact (hk f hf k o hk').2 (by rw [List.map_cons, List.map_cons, List.mem_cons, List.mem_cons]; exact .inr (.inl e3))
  · intro j u hj
    have := g1.own _ (List.mem_cons_self ..)
    simp only at this
    rw [add_off]
    simp [World.cell?, this, hj]
  · intro b cap cs g' hb hr
    obtain ⟨g2, e2⟩ := g'.less (M' := (b, e, cs) :: R) (by exact (List.sublist_cons_self _ _).cons_cons _)
    rw [e2]
    exact h b cap cs g2 hb hr
end
end Go.Proofs.Ytcaaecmbbbdopaa.GW
