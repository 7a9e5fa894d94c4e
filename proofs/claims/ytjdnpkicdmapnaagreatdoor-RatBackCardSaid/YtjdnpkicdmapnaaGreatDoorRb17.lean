/- Plain facts and contracts of functions of the program, out of walks. Their conditions stand ahead of each. -/
import Derived.Test.YtjdnpkicdmapnaaGreatDoorRb10
import Derived.Test.YtjdnpkicdmapnaaGreatDoorRb11
import Derived.Below
import Derived.Deep.Draws
import Derived.Deep.RegionLaw
import Derived.Laws.NewBlocks
import Derived.Laws.OwnMore
import Derived.Laws.Rows
import Derived.Maps.AppendAt
import Derived.RangeFuncNested
import Derived.WalkKit
set_option linter.unusedVariables false
set_option linter.unusedSimpArgs false
namespace Go.Proofs.YtjdnpkicdmapnaaGreatDoor.GW
open Go
open Go.RowKit NL
section
variable {w0 : World} {R : List Blk} {I : List Frag}
theorem step_append_row {P : Program} {ops : Array Oper} {o : Oper} {a : Act} {K : Act → World → Prop} {Q : Exit → Act → World → Prop} {E : Prop} (hgd : o.guard = none) (s x : Operand) (t : TypeId)
    (ho : o.op = .call { callee := .builtin .append, args := #[s, x], argTypes := #[t, t] })
    (e : TypeId) (i : TypeInfo) (z : Value) (size bytes : Nat) (ht : P.underlying t = some (.slice e)) (hi : P.info? e = some i) (hz : i.zero = some z)
    (hsize : i.size = size) (hby : i.bytes = bytes) (hzs : z.cells.size = size) (hsz : 0 < size)
    {b n cap : Nat} {cs xs : List Value} (g : G w0 [] ((b, e, cs) :: R) I) (hr : Row e size n xs cap cs) (hs : a.eval s = .slice (some ⟨b, 0, none⟩) n cap)
    (m c : Nat) (news : List Value) (ad : Option Addr) (hx : a.eval x = .slice ad m c) (hl : news.length = m * size) (hnews : ∃ ad', ad = some ad' ∧ ∀ j u, news[j]? = some u → g.w.cell? (ad'.add j) = some u) (h1 : ∀ u ∈ news, u.oneCell' = true)
    (hm : 0 < m) (h63 : n + m ≤ maxLen) (hbytes : (n + m) * bytes ≤ 140737488355328)
    (h : ∀ b cap cs, ∀ g' : G w0 [] ((b, e, cs) :: R) I, w0.heap.size ≤ b → Row e size (n + m) (xs ++ news) cap cs → K (a.put o.dst (.slice (some ⟨b, 0, none⟩) (n + m) cap)) g'.w) :
    if Region.wanted o (yielded ops a.tmps) = true then Oper.wp P o a g.w K Q else E := by
  have hw : Region.wanted o (yielded ops a.tmps) = true := by simp [Region.wanted, hgd]
  rw [if_pos hw]
  obtain ⟨ad', rfl, hnews⟩ := hnews
  have hb : w0.heap.size ≤ b := g.fresh (List.mem_cons_self ..)
  have hown := g.rowAt hr (List.mem_cons_self ..) hb
  have hap := g.apart
  obtain ⟨g1, e1⟩ := g.less (M' := R) (List.sublist_cons_self _ _)
  rw [e1] at hown hnews ⊢
  exact wp_append_g s x t ho e i z size bytes ht hi hz hsize hby hzs hsz g1 _ n xs hs hown hap.1 hap.2 ad' m c news hx hl hnews h1 hm h63 hbytes h
end
theorem row_zeros (T : TypeId) (n : Nat) (h : n ≤ 9223372036854775807) : Row T 1 n (u32s (List.replicate n 0)) n (u32s (List.replicate n 0)) :=
  ⟨Nat.le_refl _, by show n ≤ 9223372036854775807; omega, by rw [u32s_len, List.length_replicate, Nat.mul_one], by rw [Nat.mul_one, List.take_of_length_le (by rw [u32s_len, List.length_replicate]; exact Nat.le_refl _)], by rw [u32s_len, List.length_replicate, Nat.mul_one]⟩
end Go.Proofs.YtjdnpkicdmapnaaGreatDoor.GW
