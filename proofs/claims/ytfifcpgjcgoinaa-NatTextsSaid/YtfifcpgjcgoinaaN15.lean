/- Contracts of functions of the program, out of walks. Their conditions stand ahead of each. -/
import Derived.Test.YtfifcpgjcgoinaaN12
import Derived.Test.YtfifcpgjcgoinaaGb
import Derived.OwnWalk
set_option linter.unusedVariables false
set_option linter.unusedSimpArgs false
namespace Go.Proofs.Ytfifcpgjcgoinaa
open Go.RowKit GW NL
/-- What is returned reads as the limbs l, in new memory. -/
def RLim (l : List Nat) (w : World) (e : Ending) (w' : World) : Prop := ∃ A c F, e = .returned (.slice A l.length c) ∧ F.Sl A c l ∧ New w w' F
theorem rlim_row {w0 : World} {M : List Blk} {I : List Frag} {b cap n : Nat} {T : TypeId} {cs : List Value} {l : List Nat} (g : G w0 [] ((b, T, cs) :: M) I) (h : Row T 1 n (u32s l) cap cs) (hn : l.length = n) (hlen : n ≤ 140737488355328) (hk : Ok l) :
    RLim l w0 (.returned (.slice (some ⟨b, 0, none⟩) n cap)) g.w := ⟨_, cap, _, by rw [hn], sl_row h hn hlen hk, g.give (List.mem_cons_self ..)⟩
theorem own_any (A : Option Addr) (c : Nat) (l : List Nat) (w : World) (h : SlW w A c l) (hl9 : l.length ≤ 35184372088832) :
    Calls Try.prog 28 #[.slice A l.length c] w (RLim l w) := by
  refine calls_b fun g => ?_
  have hk := h.ok
  by_cases h0 : l.length = 0
  · have hnil : l = [] := List.eq_nil_of_length_eq_zero h0
    subst hnil
    have hmx := h.max
    rw [List.length_nil]
    cases A
    · go_enter Try.func28, Try.ntmps28
      go_wp2_with (with_reducible refine G.any_mark _ ?_; (try generalize Array.size (World.heap (G.w _)) = bk); (try dsimp only [List.set_cons_zero, List.set_cons_succ]); (try clear g); intro g)
      go_ret
      exact ⟨_, 0, _, rfl, Frag.Sl.nilc _ _ (by decide), g.none⟩
    · go_enter Try.func28, Try.ntmps28
      go_wp2_with (with_reducible refine G.any_mark _ ?_; (try generalize Array.size (World.heap (G.w _)) = bk); (try dsimp only [List.set_cons_zero, List.set_cons_succ]); (try clear g); intro g)
      go_ret
      exact ⟨_, 0, _, rfl, Frag.Sl.nilc _ _ (by decide), g.none⟩
  · have hl : 0 < l.length := by omega
    obtain ⟨b, o, rfl, _⟩ := lim_cells h.lim hl
    have hnews := fun (M : List Blk) (g : G w [] M [heapOf w]) => lim_news g (List.mem_cons_self ..) h.lim
    obtain ⟨n, hn⟩ : ∃ n, l.length = n := ⟨_, rfl⟩
    rw [hn] at hl hl9 ⊢
    have HN := Lib.hid hn
    clear hn
    obtain ⟨i0, hi, hz0, hz1, hz2⟩ := info_parts infoU32
    go_enter Try.func28, Try.ntmps28
    go_wp2_with (first | (with_reducible refine G.any_mark _ ?_; (try generalize Array.size (World.heap (G.w _)) = bk); (try dsimp only [List.set_cons_zero, List.set_cons_succ]); (try clear g); intro g) | (at_builtin; refine wpList_append_e rfl _ _ 22 rfl 30 i0 _ 1 4 Try.underlying22 hi hz0 hz1 hz2 rfl (by decide) g (by exact g.fresh (List.mem_cons_self ..)) rfl ⟨b, o, none⟩ n c (u32s l) rfl (by rw [u32s_len, HN.out, Nat.mul_one]) (hnews _ g) (u32s_one l) hl (by show n ≤ 9223372036854775807; omega) (by omega) ?_; intro b2 cap cs g hb2 hr))
    go_ret
    exact rlim_row g hr HN.out (by omega) hk
set_option maxRecDepth 20000 in
theorem clone_any (A : Option Addr) (c : Nat) (l : List Nat) (w : World) (h : SlW w A c l) (hl9 : l.length ≤ 35184372088832) :
    Calls Try.prog 51 #[.slice A l.length c] w (RLim l w) := by
  refine calls_b fun g => ?_
  have hk := h.ok
  by_cases h0 : l.length = 0
  · have hnil : l = [] := List.eq_nil_of_length_eq_zero h0
    subst hnil
    have hmx := h.max
    rw [List.length_nil]
    have heq := fun (A : Option Addr) (n c : Nat) (w : World) => Lib.run_eql_slice_nil (P := Try.prog) w 24 30 A n c 0 0 Try.underlying24
    cases A
    · go_enter Try.func51, Try.ntmps51
      go_wp2_with (with_reducible refine G.any_mark _ ?_; (try generalize Array.size (World.heap (G.w _)) = bk); (try dsimp only [List.set_cons_zero, List.set_cons_succ]); (try clear g); intro g)
      go_ret
      exact ⟨_, 0, _, rfl, Frag.Sl.nilc _ _ (by decide), g.none⟩
    · go_enter Try.func51, Try.ntmps51
      go_wp2_with (with_reducible refine G.any_mark _ ?_; (try generalize Array.size (World.heap (G.w _)) = bk); (try dsimp only [List.set_cons_zero, List.set_cons_succ]); (try clear g); intro g)
      go_ret
      exact ⟨_, 0, _, rfl, Frag.Sl.nilc _ _ (by decide), g.none⟩
  · have hl : 0 < l.length := by omega
    obtain ⟨b, o, rfl, _⟩ := lim_cells h.lim hl
    have hnews := fun (M : List Blk) (g : G w [] M [heapOf w]) => lim_news g (List.mem_cons_self ..) h.lim
    have heq := fun (A : Option Addr) (n c : Nat) (w : World) => Lib.run_eql_slice_nil (P := Try.prog) w 24 30 A n c 0 0 Try.underlying24
    obtain ⟨n, hn⟩ : ∃ n, l.length = n := ⟨_, rfl⟩
    rw [hn] at hl hl9 ⊢
    have HN := Lib.hid hn
    clear hn
    obtain ⟨i0, hi, hz0, hz1, hz2⟩ := info_parts infoU32
    go_enter Try.func51, Try.ntmps51
    go_wp2_with (first | (with_reducible refine G.any_mark _ ?_; (try generalize Array.size (World.heap (G.w _)) = bk); (try dsimp only [List.set_cons_zero, List.set_cons_succ]); (try clear g); intro g) | (at_builtin; refine wpList_append_e rfl _ _ 24 rfl 30 i0 _ 1 4 Try.underlying24 hi hz0 hz1 hz2 rfl (by decide) g (by exact g.fresh (List.mem_cons_self ..)) rfl ⟨b, o, none⟩ n c (u32s l) rfl (by rw [u32s_len, HN.out, Nat.mul_one]) (hnews _ g) (u32s_one l) hl (by show n ≤ 9223372036854775807; omega) (by omega) ?_; intro b2 cap cs g hb2 hr))
    go_ret
    exact rlim_row g hr HN.out (by omega) hk
end Go.Proofs.Ytfifcpgjcgoinaa
