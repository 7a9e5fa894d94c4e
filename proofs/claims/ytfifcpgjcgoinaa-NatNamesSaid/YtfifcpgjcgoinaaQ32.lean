/- Plain facts and contracts of functions of the program, out of walks. Their conditions stand ahead of each. -/
import Derived.Test.YtfifcpgjcgoinaaQ10
set_option linter.unusedVariables false
set_option linter.unusedSimpArgs false
namespace Go.Proofs.Ytfifcpgjcgoinaa.GW
open Go
open Go.RowKit
section
variable {w0 : World} {X : List Nat} {R : List Blk} {I : List Frag}
theorem wp_append_g {P : Program} {o : Oper} {a : Act} {K : Act → World → Prop} {E : Exit → Act → World → Prop} (s x : Operand) (t : TypeId)
    (ho : o.op = .call { callee := .builtin .append, args := #[s, x], argTypes := #[t, t] })
    (e : TypeId) (i : TypeInfo) (z : Value) (size bytes : Nat) (ht : P.underlying t = some (.slice e)) (hi : P.info? e = some i) (hz : i.zero = some z)
    (hsize : i.size = size) (hby : i.bytes = bytes) (hzs : z.cells.size = size) (hsz : 0 < size)
    (g : G w0 X R I) (v : Value) (n : Nat) (xs : List Value) (hs : a.eval s = v) (hown : g.w.ownsRow w0.heap.size e size v n xs)
    (hne : ∀ m ∈ R, some m.1 ≠ v.ownBlock) (hfr : ∀ f ∈ I, ∀ k o, f k = some o → some k ≠ v.ownBlock)
    (ad : Addr) (m c : Nat) (news : List Value) (hx : a.eval x = .slice (some ad) m c) (hl : news.length = m * size) (hnews : ∀ j u, news[j]? = some u → g.w.cell? (ad.add j) = some u) (h1 : ∀ u ∈ news, u.oneCell' = true)
    (hm : 0 < m) (h63 : n + m ≤ maxLen) (hbytes : (n + m) * bytes ≤ 140737488355328)
    (h : ∀ b cap cs, ∀ g' : G w0 X ((b, e, cs) :: R) I, w0.heap.size ≤ b → Row e size (n + m) (xs ++ news) cap cs → K (a.put o.dst (.slice (some ⟨b, 0, none⟩) (n + m) cap)) g'.w) :
    o.wp P a g.w K E := by
  obtain ⟨v', w', hr, ho', hg, hv, hb⟩ := run_append_own_at (P := P) g.w w0.heap.size t o.type e i z size bytes ht hi hz hsize hby hzs hsz v n xs hown ad m c news hl hnews h1 h63 hbytes g.chg.size
  unfold Oper.wp execOp
  simp only [ho, resolve, invoke, builtin, Sem.run_bind, Sem.run_pure, Result.andThen_ok, List.map_toArray, List.map_cons, List.map_nil, hs, hx, hr]
  rcases ho'.2 with ⟨e1, e2⟩ | ⟨b, cap, cur, rfl, hb0, hh, hle, hmx, hcl, hct⟩
  · exfalso; omega
  · have hrow : ∀ k, v.ownBlock = some k → w0.heap.size ≤ k := fun k hk => (hown.lt k hk).1
    have hb' : v.ownBlock = some b ∨ b = g.w.heap.size := by
      rcases hb with hb | hb
      · exact .inl hb.symm
      · right; exact Option.some.inj hb
    obtain ⟨g', rfl⟩ := g.grow (cs := cur.toList) hg hrow hne hfr hb' (by rw [Array.toArray_toList]; exact hh)
    exact h b cap cur.toList g' hb0 ⟨hle, hmx, by rw [Array.length_toList]; exact hcl, hct, ho'.1⟩
theorem wp_append_lit {P : Program} {o : Oper} {a : Act} {K : Act → World → Prop} {E : Exit → Act → World → Prop} (s x : Operand) (t : TypeId)
    (ho : o.op = .call { callee := .builtin .append, args := #[s, x], argTypes := #[t, t] })
    (e : TypeId) (i : TypeInfo) (z : Value) (size bytes : Nat) (ht : P.underlying t = some (.slice e)) (hi : P.info? e = some i) (hz : i.zero = some z)
    (hsize : i.size = size) (hby : i.bytes = bytes) (hzs : z.cells.size = size) (hsz : 0 < size)
    {bs b n cap : Nat} {news cs xs : List Value} (g : G w0 X ((bs, e, news) :: (b, e, cs) :: R) I) (hr : Row e size n xs cap cs) (hb : w0.heap.size ≤ b) (hs : a.eval s = .slice (some ⟨b, 0, none⟩) n cap) (m : Nat) (hx : a.eval x = .slice (some ⟨bs, 0, none⟩) m m) (hl : news.length = m * size) (h1 : ∀ u ∈ news, u.oneCell' = true)
    (hm : 0 < m) (h63 : n + m ≤ maxLen) (hbytes : (n + m) * bytes ≤ 140737488355328)
    (h : ∀ b cap cs, ∀ g' : G w0 X ((b, e, cs) :: R) I, w0.heap.size ≤ b → Row e size (n + m) (xs ++ news) cap cs → K (a.put o.dst (.slice (some ⟨b, 0, none⟩) (n + m) cap)) g'.w) :
    o.wp P a g.w K E := by
  have hown := g.rowAt hr (List.mem_cons_of_mem _ (List.mem_cons_self ..)) hb
  have hd := g.dist
  have hk := g.keep
  obtain ⟨g1, e1⟩ := g.less (M' := (bs, e, news) :: R) (by exact (List.sublist_cons_self _ _).cons_cons _)
  rw [e1] at hown ⊢
  rw [List.map_cons, List.map_cons, List.nodup_cons, List.nodup_cons, List.mem_cons] at hd
  refine wp_append_g s x t ho e i z size bytes ht hi hz hsize hby hzs hsz g1 _ n xs hs hown ?_ ?_ ⟨bs, 0, none⟩ m m news hx hl ?_ h1 hm h63 hbytes ?_
  · intro m hm e'
    have e3 : m.1 = b := Option.some.inj e'
    rcases List.mem_cons.1 hm with rfl | hm
    · exact hd.1 (.inl e3)
    · exact hd.2.1 (List.mem_map.2 ⟨m, hm, e3⟩)
  · intro f hf k o hk' e'
    have e3 : k = b := Option.some.inj e'
    exact (hk f hf k o hk').2 (by rw [List.map_cons, List.map_cons, List.mem_cons, List.mem_cons]; exact .inr (.inl e3))
  · intro j u hj
    have := g1.own _ (List.mem_cons_self ..)
    simp only at this
    rw [add_off]
    simp [World.cell?, this, hj]
  · intro b cap cs g' hb hr
    obtain ⟨g2, e2⟩ := g'.less (M' := (b, e, cs) :: R) (by exact (List.sublist_cons_self _ _).cons_cons _)
    rw [e2]
    exact h b cap cs g2 hb hr
end
end Go.Proofs.Ytfifcpgjcgoinaa.GW
