/- Plain facts and contracts of functions of the program, out of walks. Their conditions stand ahead of each. -/
import Derived.Test.YtfifcpgjcgoinaaQ10
import Derived.Room.AppendFits
set_option linter.unusedVariables false
set_option linter.unusedSimpArgs false
namespace Go.Proofs.Ytfifcpgjcgoinaa.GW
open Go
open Go.RowKit
section
variable {w0 : World} {X : List Nat} {R : List Blk} {I : List Frag}
theorem wpList_append_str {P : Program} {ops : Array Oper} {rest : List Oper} {o : Oper} {a : Act} {Q : Exit → Act → World → Prop} (hgd : o.guard = none) (sl x : Operand) (t u : TypeId)
    (ho : o.op = .call { callee := .builtin .append, args := #[sl, x], argTypes := #[t, u] })
    (e : TypeId) (i : TypeInfo) (ht : P.underlying t = some (.slice e)) (hu : P.underlying u = some .string) (hi : P.info? e = some i) (hsize : i.size = 1)
    {b n cap : Nat} {cs xs : List Value} (g : G w0 X ((b, e, cs) :: R) I) (hr : Row e 1 n xs cap cs) (hb : w0.heap.size ≤ b) (hs : a.eval sl = .slice (some ⟨b, 0, none⟩) n cap) (s : ByteArray) (hx : a.eval x = .string s)
    (h1 : 0 < cap) (hroom : n + s.size ≤ cap)
    (h : ∀ cs, ∀ g' : G w0 X ((b, e, cs) :: R) I, Row e 1 (n + s.size) (xs ++ Lib.strCells s) cap cs → wpList P ops Q rest (a.put o.dst (.slice (some ⟨b, 0, none⟩) (n + s.size) cap)) g'.w) :
    wpList P ops Q (o :: rest) a g.w := by
  have hown := g.rowAt hr (List.mem_cons_self ..) hb
  refine Lib.wpList_append_fits_string _ hgd sl x t u ho w0.heap.size e i ht hu hi hsize _ n cap xs hs hown s hx h1 hroom ?_
  intro w' ho' hg
  have hap := g.apart
  obtain ⟨g1, e1⟩ := g.less (M' := R) (List.sublist_cons_self _ _)
  rw [e1] at hg
  rcases ho'.2 with ⟨e1, e2⟩ | ⟨b2, cap2, cur, he, hb0, hh, hle, hmx, hcl, hct⟩
  · cases e1
  · cases he
    obtain ⟨g', rfl⟩ := g1.grow (cs := cur.toList) hg (fun k hk => by cases hk; exact hb) hap.1 hap.2 (.inl rfl) (by rw [Array.toArray_toList]; exact hh)
    exact h cur.toList g' ⟨hle, hmx, by rw [Array.length_toList]; exact hcl, hct, ho'.1⟩
end
end Go.Proofs.Ytfifcpgjcgoinaa.GW
