/- Plain facts and contracts of functions of the program, out of walks. Their conditions stand ahead of each. -/
import Derived.Test.YtodigegjngnknaaDe8
import Derived.Test.YtodigegjngnknaaDe19
import Derived.Below
import Derived.BigQuiet
import Derived.Deep.Draws
import Derived.Deep.QuietTactic
import Derived.Deep.RegionHeld3
import Derived.Laws.NewBlocks
import Derived.Laws.OwnMore
import Derived.Laws.Pointers
import Derived.Laws.Rows
import Derived.Lib.BitFns
import Derived.Lib.Hide
import Derived.Lib.ItoaNum
import Derived.LoopIn
import Derived.LoopNIn
import Derived.Maps.AppendAt
import Derived.OwnWalk
import Derived.OwnWalkIn
import Derived.RangeFuncBound
import Derived.RangeFuncBox
import Derived.RangeFuncCalls
import Derived.RangeFuncLeaves
import Derived.RangeFuncNested
import Derived.RowKit3
import Derived.Shelf.Abstract
import Derived.Shelf.RegionOpen
import Derived.StillTactics
import Derived.StillTailTactics
import Derived.TacticsInMore
import Derived.Test.YtodigegjngnknaaProg
import Derived.WalkKit
import Derived.WalkLawsBesides
import Derived.WalkSpells
set_option linter.unusedVariables false
set_option linter.unusedSimpArgs false
namespace Go.Proofs.Ytodigegjngnknaa
open Go.RowKit GW NL
/-- What is returned reads as the limbs l, in new memory. -/
def RLim (l : List Nat) (w : World) (e : Ending) (w' : World) : Prop := ∃ A c F, e = .returned (.slice A l.length c) ∧ F.Sl A c l ∧ New w w' F
theorem rlim_row {w0 : World} {M : List Blk} {I : List Frag} {b cap n : Nat} {T : TypeId} {cs : List Value} {l : List Nat} (g : G w0 [] ((b, T, cs) :: M) I) (h : Row T 1 n (u32s l) cap cs) (hn : l.length = n) (hlen : n ≤ 140737488355328) (hk : Ok l) :
    RLim l w0 (.returned (.slice (some ⟨b, 0, none⟩) n cap)) g.w := ⟨_, cap, _, by rw [hn], sl_row h hn hlen hk, g.give (List.mem_cons_self ..)⟩
theorem own_any (A : Option Addr) (c : Nat) (l : List Nat) (w : World) (h : SlW w A c l) (hl9 : l.length ≤ 35184372088832) :
    Calls Try.prog 86 #[.slice A l.length c] w (RLim l w) := by
  refine calls_b fun g => ?_
  have hk := h.ok
  by_cases h0 : l.length = 0
  · have hnil : l = [] := List.eq_nil_of_length_eq_zero h0
    subst hnil
    have hmx := h.max
    rw [List.length_nil]
    cases A
    · go_enter Try.func86, Try.ntmps86
      go_wp2_with (with_reducible refine G.any_mark _ ?_; (try generalize Array.size (World.heap (G.w _)) = bk); (try dsimp only [List.set_cons_zero, List.set_cons_succ]); (try clear g); intro g)
      go_ret
      exact ⟨_, 0, _, rfl, Frag.Sl.nilc _ _ (by decide), g.none⟩
    · go_enter Try.func86, Try.ntmps86
      go_wp2_with (with_reducible refine G.any_mark _ ?_; (try generalize Array.size (World.heap (G.w _)) = bk); (try dsimp only [List.set_cons_zero, List.set_cons_succ]); (try clear g); intro g)
      go_ret
      exact ⟨_, 0, _, rfl, Frag.Sl.nilc _ _ (by decide), g.none⟩
  · have hl : 0 < l.length := by omega
    obtain ⟨b, o, rfl, _⟩ := lim_cells h.lim hl
    have hnews := fun (M : List Blk) (g : G w [] M [heapOf w]) => lim_news g (List.mem_cons_self ..) h.lim
    obtain ⟨n, hn⟩ : ∃ n, l.length = n := ⟨_, rfl⟩
    rw [hn] at hl hl9 ⊢
    have HN := Lib.hid hn
    clear hn
    obtain ⟨i0, hi, hz0, hz1, hz2⟩ := info_parts infoU32
    go_enter Try.func86, Try.ntmps86
    go_wp2_with (first | (with_reducible refine G.any_mark _ ?_; (try generalize Array.size (World.heap (G.w _)) = bk); (try dsimp only [List.set_cons_zero, List.set_cons_succ]); (try clear g); intro g) | (at_builtin; refine wpList_append_e rfl _ _ 64 rfl 82 i0 _ 1 4 Try.underlying64 hi hz0 hz1 hz2 rfl (by decide) g (by exact g.fresh (List.mem_cons_self ..)) rfl ⟨b, o, none⟩ n c (u32s l) rfl (by rw [u32s_len, HN.out, Nat.mul_one]) (hnews _ g) (u32s_one l) hl (by show n ≤ 9223372036854775807; omega) (by omega) ?_; intro b2 cap cs g hb2 hr))
    go_ret
    exact rlim_row g hr HN.out (by omega) hk
set_option maxRecDepth 20000 in
theorem clone_any (A : Option Addr) (c : Nat) (l : List Nat) (w : World) (h : SlW w A c l) (hl9 : l.length ≤ 35184372088832) :
    Calls Try.prog 106 #[.slice A l.length c] w (RLim l w) := by
  refine calls_b fun g => ?_
  have hk := h.ok
  by_cases h0 : l.length = 0
  · have hnil : l = [] := List.eq_nil_of_length_eq_zero h0
    subst hnil
    have hmx := h.max
    rw [List.length_nil]
    have heq := fun (A : Option Addr) (n c : Nat) (w : World) => Lib.run_eql_slice_nil (P := Try.prog) w 65 82 A n c 0 0 Try.underlying65
    cases A
    · go_enter Try.func106, Try.ntmps106
      go_wp2_with (with_reducible refine G.any_mark _ ?_; (try generalize Array.size (World.heap (G.w _)) = bk); (try dsimp only [List.set_cons_zero, List.set_cons_succ]); (try clear g); intro g)
      go_ret
      exact ⟨_, 0, _, rfl, Frag.Sl.nilc _ _ (by decide), g.none⟩
    · go_enter Try.func106, Try.ntmps106
      go_wp2_with (with_reducible refine G.any_mark _ ?_; (try generalize Array.size (World.heap (G.w _)) = bk); (try dsimp only [List.set_cons_zero, List.set_cons_succ]); (try clear g); intro g)
      go_ret
      exact ⟨_, 0, _, rfl, Frag.Sl.nilc _ _ (by decide), g.none⟩
  · have hl : 0 < l.length := by omega
    obtain ⟨b, o, rfl, _⟩ := lim_cells h.lim hl
    have hnews := fun (M : List Blk) (g : G w [] M [heapOf w]) => lim_news g (List.mem_cons_self ..) h.lim
    have heq := fun (A : Option Addr) (n c : Nat) (w : World) => Lib.run_eql_slice_nil (P := Try.prog) w 65 82 A n c 0 0 Try.underlying65
    obtain ⟨n, hn⟩ : ∃ n, l.length = n := ⟨_, rfl⟩
    rw [hn] at hl hl9 ⊢
    have HN := Lib.hid hn
    clear hn
    obtain ⟨i0, hi, hz0, hz1, hz2⟩ := info_parts infoU32
    go_enter Try.func106, Try.ntmps106
    go_wp2_with (first | (with_reducible refine G.any_mark _ ?_; (try generalize Array.size (World.heap (G.w _)) = bk); (try dsimp only [List.set_cons_zero, List.set_cons_succ]); (try clear g); intro g) | (at_builtin; refine wpList_append_e rfl _ _ 65 rfl 82 i0 _ 1 4 Try.underlying65 hi hz0 hz1 hz2 rfl (by decide) g (by exact g.fresh (List.mem_cons_self ..)) rfl ⟨b, o, none⟩ n c (u32s l) rfl (by rw [u32s_len, HN.out, Nat.mul_one]) (hnews _ g) (u32s_one l) hl (by show n ≤ 9223372036854775807; omega) (by omega) ?_; intro b2 cap cs g hb2 hr))
    go_ret
    exact rlim_row g hr HN.out (by omega) hk
end Go.Proofs.Ytodigegjngnknaa
namespace Go.Proofs.Ytodigegjngnknaa
open Go.RowKit GW NL
theorem below_old {w w' : World} (h : Below w.heap.size w w') {a : Addr} {v : Value} (hv : w.cell? a = some v) : w'.cell? a = some v :=
  (World.cell?_of_block (h.block _ (World.block_lt_of_cell? w a hv))).trans hv
end Go.Proofs.Ytodigegjngnknaa
