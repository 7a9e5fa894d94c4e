/- Plain facts and contracts of functions of the program, out of walks. Their conditions stand ahead of each. -/
import Derived.Test.YtjdnpkicdmapnaaGreatDoorRb9
import Derived.Test.YtjdnpkicdmapnaaGreatDoorRb11
import Derived.Below
import Derived.Deep.Draws
import Derived.Laws.NewBlocks
import Derived.Laws.OwnMore
import Derived.Laws.Rows
import Derived.Maps.AppendAt
import Derived.OwnWalk
import Derived.WalkKit
set_option linter.unusedVariables false
set_option linter.unusedSimpArgs false
namespace Go.Proofs.YtjdnpkicdmapnaaGreatDoor.GW
open Go
open Go Go.RowKit
/-- the second type of append matters by its underlying type alone -/
theorem append_tx {P : Program} (w : World) {t tx ty e e2 : TypeId} (ht : P.underlying t = some (.slice e)) (htx : P.underlying tx = some (.slice e2)) (s x : Value) :
    (Builtin.append_ #[t, tx] ty #[s, x]).run P w = (Builtin.append_ #[t, t] ty #[s, x]).run P w := by
  unfold Builtin.append_
  simp only [List.getElem?_toArray, List.getElem?_cons_zero, List.getElem?_cons_succ, Sem.run_bind, run_underlying ht, run_underlying htx, Result.andThen_ok, Sem.run_pure]
  cases s <;> simp only [Sem.run_bind, run_underlying ht, run_underlying htx, Result.andThen_ok, Sem.run_pure]
section
variable {w0 : World} {X : List Nat} {R : List Blk} {I : List Frag}
theorem wpList_append_gx {P : Program} {ops : Array Oper} {rest : List Oper} {o : Oper} {a : Act} {Q : Exit → Act → World → Prop} (hgd : o.guard = none) (s x : Operand) (t tx : TypeId)
    (ho : o.op = .call { callee := .builtin .append, args := #[s, x], argTypes := #[t, tx] })
    (e : TypeId) (i : TypeInfo) (z : Value) (size bytes : Nat) (ht : P.underlying t = some (.slice e)) (htx : P.underlying tx = some (.slice e)) (hi : P.info? e = some i) (hz : i.zero = some z)
    (hsize : i.size = size) (hby : i.bytes = bytes) (hzs : z.cells.size = size) (hsz : 0 < size)
    (g : G w0 X R I) (v : Value) (n : Nat) (xs : List Value) (hs : a.eval s = v) (hown : g.w.ownsRow w0.heap.size e size v n xs)
    (hne : ∀ m ∈ R, some m.1 ≠ v.ownBlock) (hfr : ∀ f ∈ I, ∀ k o, f k = some o → some k ≠ v.ownBlock)
    (ad : Addr) (m c : Nat) (news : List Value) (hx : a.eval x = .slice (some ad) m c) (hl : news.length = m * size) (hnews : ∀ j u, news[j]? = some u → g.w.cell? (ad.add j) = some u) (h1 : ∀ u ∈ news, u.oneCell' = true)
    (hm : 0 < m) (h63 : n + m ≤ maxLen) (hbytes : (n + m) * bytes ≤ 140737488355328)
    (h : ∀ b cap cs, ∀ g' : G w0 X ((b, e, cs) :: R) I, w0.heap.size ≤ b → Row e size (n + m) (xs ++ news) cap cs → wpList P ops Q rest (a.put o.dst (.slice (some ⟨b, 0, none⟩) (n + m) cap)) g'.w) :
    wpList P ops Q (o :: rest) a g.w := by
  refine wpList_plain hgd fun K hK => ?_
  obtain ⟨v', w', hr, ho', hg, hv, hb⟩ := run_append_own_at (P := P) g.w w0.heap.size t o.type e i z size bytes ht hi hz hsize hby hzs hsz v n xs hown ad m c news hl hnews h1 h63 hbytes g.chg.size
  rw [← append_tx g.w ht htx] at hr
  unfold Oper.wp execOp
  simp only [ho, resolve, invoke, builtin, Sem.run_bind, Sem.run_pure, Result.andThen_ok, List.map_toArray, List.map_cons, List.map_nil, hs, hx, hr]
  refine hK _ _ ?_
  rcases ho'.2 with ⟨e1, e2⟩ | ⟨b, cap, cur, rfl, hb0, hh, hle, hmx, hcl, hct⟩
  · exfalso; omega
  · have hrow : ∀ k, v.ownBlock = some k → w0.heap.size ≤ k := fun k hk => (hown.lt k hk).1
    have hb' : v.ownBlock = some b ∨ b = g.w.heap.size := by
      rcases hb with hb | hb
      · exact .inl hb.symm
      · right; exact Option.some.inj hb
    obtain ⟨g', rfl⟩ := g.grow (cs := cur.toList) hg hrow hne hfr hb' (by rw [Array.toArray_toList]; exact hh)
    exact h b cap cur.toList g' hb0 ⟨hle, hmx, by rw [Array.length_toList]; exact hcl, hct, ho'.1⟩
/-- 'append' to a row at the head of the blocks, from any source -/
theorem wpList_append_rowx {P : Program} {ops : Array Oper} {rest : List Oper} {o : Oper} {a : Act} {Q : Exit → Act → World → Prop} (hgd : o.guard = none) (s x : Operand) (t tx : TypeId)
    (ho : o.op = .call { callee := .builtin .append, args := #[s, x], argTypes := #[t, tx] })
    (e : TypeId) (i : TypeInfo) (z : Value) (size bytes : Nat) (ht : P.underlying t = some (.slice e)) (htx : P.underlying tx = some (.slice e)) (hi : P.info? e = some i) (hz : i.zero = some z)
    (hsize : i.size = size) (hby : i.bytes = bytes) (hzs : z.cells.size = size) (hsz : 0 < size)
    {b n cap : Nat} {cs xs : List Value} (g : G w0 X ((b, e, cs) :: R) I) (hr : Row e size n xs cap cs) (hb : w0.heap.size ≤ b) (hs : a.eval s = .slice (some ⟨b, 0, none⟩) n cap)
    (m c : Nat) (news : List Value) (A : Option Addr) (hx : a.eval x = .slice A m c) (hl : news.length = m * size) (hsrc : ∃ ad, A = some ad ∧ ∀ j u, news[j]? = some u → g.w.cell? (ad.add j) = some u) (h1 : ∀ u ∈ news, u.oneCell' = true)
    (hm : 0 < m) (h63 : n + m ≤ maxLen) (hbytes : (n + m) * bytes ≤ 140737488355328)
    (h : ∀ b cap cs, ∀ g' : G w0 X ((b, e, cs) :: R) I, w0.heap.size ≤ b → Row e size (n + m) (xs ++ news) cap cs → wpList P ops Q rest (a.put o.dst (.slice (some ⟨b, 0, none⟩) (n + m) cap)) g'.w) :
    wpList P ops Q (o :: rest) a g.w := by
  obtain ⟨ad, rfl, hnews⟩ := hsrc
  have hown := g.rowAt hr (List.mem_cons_self ..) hb
  obtain ⟨ha, hf⟩ := g.apart
  obtain ⟨g1, e1⟩ := g.less (M' := R) (List.sublist_cons_self _ _)
  rw [e1] at hown hnews ⊢
  exact wpList_append_gx hgd s x t tx ho e i z size bytes ht htx hi hz hsize hby hzs hsz g1 _ n xs hs hown ha hf ad m c news hx hl hnews h1 hm h63 hbytes h
/-- an own block becomes a part that stays -/
theorem G.frz {w0 : World} {X : List Nat} {b : Nat} {T : TypeId} {cs : List Value} {M : List Blk} {I : List Frag} (g : G w0 X ((b, T, cs) :: M) I) (hb : w0.heap.size ≤ b) : ∃ g' : G w0 X M (blkF b (.cells cs.toArray T (0, 0)) :: I), g.w = g'.w := by
  obtain ⟨g2, h⟩ := g.less (M' := M) (List.sublist_cons_self _ _)
  have hd := g.dist
  rw [List.map_cons, List.nodup_cons] at hd
  refine ⟨g2.see (blkF b (.cells cs.toArray T (0, 0))) (by rw [← h]; exact blkF_sub g.blk0) (fun k o hk => ?_), h⟩
  rw [blkF_at hk]
  exact ⟨.inl hb, hd.1⟩
end
end Go.Proofs.YtjdnpkicdmapnaaGreatDoor.GW
