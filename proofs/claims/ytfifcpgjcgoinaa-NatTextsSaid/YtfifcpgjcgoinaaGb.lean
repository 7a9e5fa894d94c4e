/- Worlds of a walk, known by their type. No conditions. -/
import Derived.Test.YtfifcpgjcgoinaaGa
import Derived.Test.YtfifcpgjcgoinaaNm
set_option linter.unusedVariables false
set_option linter.unusedSimpArgs false
namespace Go.Proofs.Ytfifcpgjcgoinaa.GW
open Go
open Go.RowKit NL
section
variable {w0 : World} {X : List Nat} {R : List Blk} {I : List Frag}
theorem Row.empty (e : TypeId) (size : Nat) : Row e size 0 [] 0 [] := ⟨Nat.le_refl _, by decide, by simp, by simp, by simp⟩
theorem wpList_append_e {P : Program} {ops : Array Oper} {rest : List Oper} {o : Oper} {a : Act} {Q : Exit → Act → World → Prop} (hgd : o.guard = none) (s x : Operand) (t : TypeId)
    (ho : o.op = .call { callee := .builtin .append, args := #[s, x], argTypes := #[t, t] })
    (e : TypeId) (i : TypeInfo) (z : Value) (size bytes : Nat) (ht : P.underlying t = some (.slice e)) (hi : P.info? e = some i) (hz : i.zero = some z)
    (hsize : i.size = size) (hby : i.bytes = bytes) (hzs : z.cells.size = size) (hsz : 0 < size)
    {bk : Nat} (g : G w0 X ((bk, e, []) :: R) I) (hb : w0.heap.size ≤ bk) (hs : a.eval s = .slice (some ⟨bk, 0, none⟩) 0 0)
    (ad : Addr) (m c : Nat) (news : List Value) (hx : a.eval x = .slice (some ad) m c) (hl : news.length = m * size) (hnews : ∀ j u, news[j]? = some u → g.w.cell? (ad.add j) = some u) (h1 : ∀ u ∈ news, u.oneCell' = true)
    (hm : 0 < m) (h63 : m ≤ maxLen) (hbytes : m * bytes ≤ 140737488355328)
    (h : ∀ b cap cs, ∀ g' : G w0 X ((b, e, cs) :: R) I, w0.heap.size ≤ b → Row e size m news cap cs → wpList P ops Q rest (a.put o.dst (.slice (some ⟨b, 0, none⟩) m cap)) g'.w) :
    wpList P ops Q (o :: rest) a g.w := by
  have hown := g.rowAt (Row.empty e size) (List.mem_cons_self ..) hb
  have hap := g.apart
  obtain ⟨g1, e1⟩ := g.less (M' := R) (List.sublist_cons_self _ _)
  rw [e1] at hown hnews ⊢
  refine wpList_append_g hgd s x t ho e i z size bytes ht hi hz hsize hby hzs hsz g1 _ 0 [] hs hown hap.1 hap.2 ad m c news hx hl hnews h1 hm (by omega) (by rw [Nat.zero_add]; exact hbytes) ?_
  intro b cap cs g' hb' hr
  rw [Nat.zero_add] at *
  exact h b cap cs g' hb' (by simpa using hr)
end
theorem sl_row {b cap n : Nat} {T : TypeId} {cs : List Value} {l : List Nat} (h : Row T 1 n (u32s l) cap cs) (hn : l.length = n) (hlen : n ≤ 140737488355328) (hk : Ok l) : (blkF b (.cells cs.toArray T (0, 0))).Sl (some ⟨b, 0, none⟩) cap l := by
  refine ⟨by rw [hn]; exact h.le, h.max, by omega, ?_, hk⟩
  intro hl
  refine ⟨b, 0, rfl, cs.toArray, T, (0, 0), by simp [blkF], fun j hj => ?_⟩
  rw [Nat.zero_add, List.getElem?_toArray, ← u32s_getD hj, ← h.take, List.getElem?_take_of_lt (by omega)]
/-- the cells of a slice of limbs, read as a list -/
theorem lim_news {F : Frag} {b o : Nat} {l : List Nat} {w0 : World} {X : List Nat} {M : List Blk} {I : List Frag} (g : G w0 X M I) (hF : F ∈ I) (h : F.Lim (some ⟨b, o, none⟩) l) : ∀ j u, (u32s l)[j]? = some u → g.w.cell? ((⟨b, o, none⟩ : Addr).add j) = some u := by
  intro j u hj
  have hl : j < l.length := by
    rw [← u32s_len l]
    exact (List.getElem?_eq_some_iff.1 hj).1
  obtain ⟨b', o', e, hc⟩ := g.cell_of hF h (by omega)
  cases e
  rw [u32s_getD hl] at hj
  cases hj
  have ea : (⟨b, o, none⟩ : Addr).add j = ⟨b, o + j, none⟩ := by
    unfold Addr.add
    split
    · next h0 => subst h0; rfl
    · rfl
  rw [ea]
  exact hc j hl
end Go.Proofs.Ytfifcpgjcgoinaa.GW
namespace Go.Proofs.Ytfifcpgjcgoinaa.GW
open Go
open Go.RowKit NL
/-- a call that makes two parts -/
theorem G.new2_ex {w0 : World} {X : List Nat} {M : List Blk} {I : List Frag} (g : G w0 X M I) {w1 : World} {F1 F2 : Frag} (h1 : New g.w w1 F1) (h2 : New g.w w1 F2) : ∃ g' : G w0 X M (F1 :: F2 :: I), w1 = g'.w := by
  obtain ⟨g', rfl⟩ := g.new_ex h2
  refine ⟨g'.see F1 h1.sub fun k o hk => ⟨.inl (Nat.le_trans g.chg.size (h1.new k o hk)), fun hm => ?_⟩, rfl⟩
  obtain ⟨m, hm2, e⟩ := List.mem_map.1 hm
  have := g.lt hm2
  have := h1.new k o hk
  omega
/-- two numbers in new memory -/
def RNN (q r : Nat) (w : World) (e : Ending) (w' : World) : Prop := ∃ A1 c1 F1 A2 c2 F2, e = .returned (.tuple #[.slice A1 (limbs q).length c1, .slice A2 (limbs r).length c2]) ∧ F1.Sl A1 c1 (limbs q) ∧ F2.Sl A2 c2 (limbs r) ∧ New w w' F1 ∧ New w w' F2
theorem G.lessI {w0 : World} {X : List Nat} {M : List Blk} {I I' : List Frag} (g : G w0 X M I) (h : ∀ f ∈ I', f ∈ I) : ∃ g' : G w0 X M I', g.w = g'.w :=
  ⟨⟨g.w, g.chg, g.own, g.may, g.dist, fun f hf => g.sub f (h f hf), fun f hf => g.keep f (h f hf)⟩, rfl⟩
end Go.Proofs.Ytfifcpgjcgoinaa.GW
