/- Plain facts and contracts of functions of the program, out of walks. Their conditions stand ahead of each. -/
import Derived.Test.YtcaaecmbbbdopaaDs5
import Derived.Test.YtcaaecmbbbdopaaDs12
import Derived.Below
import Derived.BigQuiet
import Derived.Deep.DeepCutAuto
import Derived.Deep.Draws
import Derived.Deep.QuietTactic
import Derived.Deep.RegionHeld3
import Derived.Deep.RegionLaw
import Derived.Laws.NewBlocks
import Derived.Laws.OwnMore
import Derived.Laws.Pointers
import Derived.Laws.Rows
import Derived.Lib.Hide
import Derived.Maps.AppendAt
import Derived.RowKit3
import Derived.StillTactics
import Derived.StillTailTactics
import Derived.Test.YtcaaecmbbbdopaaProg
import Derived.WalkKit
import Derived.WalkLawsBesides
import Derived.WalkSpells
set_option linter.unusedVariables false
set_option linter.unusedSimpArgs false
namespace Go.Proofs.Ytcaaecmbbbdopaa.GW
open Go
open Go.RowKit NL
section
variable {w0 : World} {R : List Blk} {I : List Frag}
theorem step_append_at {P : Program} {ops : Array Oper} {o : Oper} {a : Act} {K : Act → World → Prop} {Q : Exit → Act → World → Prop} {E : Prop} (hgd : o.guard = none) (s x : Operand) (t : TypeId)
    (ho : o.op = .call { callee := .builtin .append, args := #[s, x], argTypes := #[t, t] })
    (e : TypeId) (i : TypeInfo) (z : Value) (size bytes : Nat) (ht : P.underlying t = some (.slice e)) (hi : P.info? e = some i) (hz : i.zero = some z)
    (hsize : i.size = size) (hby : i.bytes = bytes) (hzs : z.cells.size = size) (hsz : 0 < size)
    {bs b n cap : Nat} {cs xs news : List Value} (g : G w0 [] ((bs, e, news) :: (b, e, cs) :: R) I) (hr : Row e size n xs cap cs) (hs : a.eval s = .slice (some ⟨b, 0, none⟩) n cap)
    (m : Nat) (hx : a.eval x = .slice (some ⟨bs, 0, none⟩) m m) (hl : news.length = m * size) (h1 : ∀ u ∈ news, u.oneCell' = true)
    (hm : 0 < m) (h63 : n + m ≤ maxLen) (hbytes : (n + m) * bytes ≤ 140737488355328)
    (h : ∀ b cap cs, ∀ g' : G w0 [] ((b, e, cs) :: R) I, w0.heap.size ≤ b → Row e size (n + m) (xs ++ news) cap cs → K (a.put o.dst (.slice (some ⟨b, 0, none⟩) (n + m) cap)) g'.w) :
    if Region.wanted o (yielded ops a.tmps) = true then Oper.wp P o a g.w K Q else E := by
  have hw : Region.wanted o (yielded ops a.tmps) = true := by simp [Region.wanted, hgd]
  rw [if_pos hw]
  have hb : w0.heap.size ≤ b := g.fresh (List.mem_cons_of_mem _ (List.mem_cons_self ..))
  have hnews : ∀ j u, news[j]? = some u → g.w.cell? ((⟨bs, 0, none⟩ : Addr).add j) = some u := by
    intro j u hj
    have := g.own _ (List.mem_cons_self ..)
    simp only at this
    rw [add_off]
    simp [World.cell?, this, hj]
  obtain ⟨g0, e0⟩ := g.less (M' := (b, e, cs) :: R) (List.sublist_cons_self _ _)
  rw [e0] at hnews ⊢
  have hown := g0.rowAt hr (List.mem_cons_self ..) hb
  have hap := g0.apart
  obtain ⟨g1, e1⟩ := g0.less (M' := R) (List.sublist_cons_self _ _)
  rw [e1] at hown hnews ⊢
  exact wp_append_g s x t ho e i z size bytes ht hi hz hsize hby hzs hsz g1 _ n xs hs hown hap.1 hap.2 ⟨bs, 0, none⟩ m m news hx hl hnews h1 hm h63 hbytes h
theorem step_append_nil {P : Program} {ops : Array Oper} {o : Oper} {a : Act} {K : Act → World → Prop} {Q : Exit → Act → World → Prop} {E : Prop} (hgd : o.guard = none) (s x : Operand) (t : TypeId)
    (ho : o.op = .call { callee := .builtin .append, args := #[s, x], argTypes := #[t, t] })
    (e : TypeId) (i : TypeInfo) (z : Value) (size bytes : Nat) (ht : P.underlying t = some (.slice e)) (hi : P.info? e = some i) (hz : i.zero = some z)
    (hsize : i.size = size) (hby : i.bytes = bytes) (hzs : z.cells.size = size) (hsz : 0 < size)
    {bs : Nat} {news : List Value} (g : G w0 [] ((bs, e, news) :: R) I) (hs : a.eval s = .slice none 0 0)
    (m : Nat) (hx : a.eval x = .slice (some ⟨bs, 0, none⟩) m m) (hl : news.length = m * size) (h1 : ∀ u ∈ news, u.oneCell' = true)
    (hm : 0 < m) (h63 : m ≤ maxLen) (hbytes : m * bytes ≤ 140737488355328)
    (h : ∀ b cap cs, ∀ g' : G w0 [] ((b, e, cs) :: R) I, w0.heap.size ≤ b → Row e size (0 + m) ([] ++ news) cap cs → K (a.put o.dst (.slice (some ⟨b, 0, none⟩) (0 + m) cap)) g'.w) :
    if Region.wanted o (yielded ops a.tmps) = true then Oper.wp P o a g.w K Q else E := by
  have hw : Region.wanted o (yielded ops a.tmps) = true := by simp [Region.wanted, hgd]
  rw [if_pos hw]
  have hnews : ∀ j u, news[j]? = some u → g.w.cell? ((⟨bs, 0, none⟩ : Addr).add j) = some u := by
    intro j u hj
    have := g.own _ (List.mem_cons_self ..)
    simp only at this
    rw [add_off]
    simp [World.cell?, this, hj]
  obtain ⟨g1, e1⟩ := g.less (M' := R) (List.sublist_cons_self _ _)
  rw [e1] at hnews ⊢
  exact wp_append_g s x t ho e i z size bytes ht hi hz hsize hby hzs hsz g1 _ 0 [] hs (g1.rowNil e size) (by intro m _ h; cases h) (by intro f _ k o _ h; cases h) ⟨bs, 0, none⟩ m m news hx hl hnews h1 hm (by omega) (by rw [Nat.zero_add]; exact hbytes) h
end
end Go.Proofs.Ytcaaecmbbbdopaa.GW
