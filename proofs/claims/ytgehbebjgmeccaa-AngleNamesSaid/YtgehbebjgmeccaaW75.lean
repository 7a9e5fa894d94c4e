/- Contracts of functions of the program and of its reference, out of walks. Their conditions stand ahead of each. -/
import Derived.Test.YtgehbebjgmeccaaW46
import Derived.Test.YtgehbebjgmeccaaGa
import Derived.OwnWalk
set_option linter.unusedVariables false
set_option linter.unusedSimpArgs false
namespace Go.Proofs.Ytgehbebjgmeccaa
open Go.RowKit GW
/-- the first k samples of the table -/
def row2 (k : Nat) : List Value := (List.range k).flatMap fun j : Nat => [.int .i64 (Ang.ti (j : Int)), .int .i64 (Ang.tq (j : Int))]
theorem row2_succ (k : Nat) : row2 k ++ [.int .i64 (Ang.ti k), .int .i64 (Ang.tq k)] = row2 (k + 1) := by
  unfold row2; rw [List.range_succ, List.flatMap_append]; rfl
theorem row2_zero : row2 0 = [] := rfl
def RTab (w : World) (e : Ending) (w' : World) : Prop := ∃ b cap cs, e = .returned (.slice (some ⟨b, 0, none⟩) 64 cap) ∧ w.heap.size ≤ b ∧ Row 23 2 64 (row2 64) cap cs ∧ w'.heap[b]? = some (.cells cs.toArray 23 (0, 0)) ∧ Below w.heap.size w w'
set_option maxRecDepth 100000 in
theorem rTable_any (w : World) : Calls Try.prog 90 #[] w (RTab w) := by
  obtain ⟨i0, hi, hz0, hz1, hz2⟩ := info_parts info23
  have HS := Lib.hid row2_succ
  refine calls_g fun g => ?_
  go_enter Try.func90, Try.ntmps90
  go_wp2_with (with_reducible refine G.any_mark _ ?_; (try generalize Array.size (World.heap (G.w _)) = bk); (try dsimp only [List.set_cons_zero, List.set_cons_succ]); (try clear g); intro g)
  go_loopw [1, 2] (fun v i wr => ∃ k : Nat, k ≤ 64 ∧ i = .int .i64 k ∧ ((k = 0 ∧ v = .slice none 0 0 ∧ ∃ g : G w [] [] [], wr = g.w) ∨ (∃ b cap cs, v = .slice (some ⟨b, 0, none⟩) k cap ∧ w.heap.size ≤ b ∧ Row 23 2 k (row2 k) cap cs ∧ ∃ g : G w [] [(b, 23, cs)] [], wr = g.w))) (fun _ i _ => 64 - (intOf i).toNat)
  case atStart => exact ⟨0, by omega, rfl, .inl ⟨rfl, rfl, g, rfl⟩⟩
  case round =>
    clear g
    obtain ⟨k, hk, rfl, ⟨rfl, rfl, g', rfl⟩ | ⟨b, cap, cs, rfl, hb, hr, g', rfl⟩⟩ := hrel
    · revert g'
      intro g
      go_wp2_with (with_reducible refine G.any_mark _ ?_; (try generalize Array.size (World.heap (G.w _)) = bk); (try dsimp only [List.set_cons_zero, List.set_cons_succ]); (try clear g); intro g)
      refine (rentry_any _ _).mono ?_; rintro e w1 ⟨rfl, hb⟩; obtain ⟨g1, rfl⟩ := G.call_ex _ hb; clear hb; (try clear g); revert g1; intro g
      have H1 : ∀ u ∈ [Value.int .i64 (Ang.ti 0), Value.int .i64 (Ang.tq 0)], u.oneCell' = true := by intro u hu; simp at hu; rcases hu with rfl | rfl <;> rfl
      go_wp2_with (first | (at_builtin; refine wpList_append_lit0 rfl _ _ 53 rfl 23 i0 _ 2 16 Try.underlying53 hi hz0 hz1 hz2 rfl (by decide) g rfl 1 rfl rfl H1 (by decide) (by decide) (by decide) ?_; intro b cap cs g hb hr) | (with_reducible refine G.any_mark _ ?_; (try generalize Array.size (World.heap (G.w _)) = bk); (try dsimp only [List.set_cons_zero, List.set_cons_succ]); (try clear g); intro g))
      exact ⟨⟨1, by omega, by go_num, .inr ⟨b, cap, cs, rfl, hb, hr, g, rfl⟩⟩, by simp [intOf]⟩
    · revert g'
      intro g
      by_cases hlt : k < 64
      · have k1 : (k : Int) < 64 := by omega
        go_wp2_with (with_reducible refine G.any_mark _ ?_; (try generalize Array.size (World.heap (G.w _)) = bk); (try dsimp only [List.set_cons_zero, List.set_cons_succ]); (try clear g); intro g)
        refine (rentry_any _ _).mono ?_; rintro e w1 ⟨rfl, hb⟩; obtain ⟨g1, rfl⟩ := G.call_ex _ hb; clear hb; (try clear g); revert g1; intro g
        have H1 : ∀ u ∈ [Value.int .i64 (Ang.ti k), Value.int .i64 (Ang.tq k)], u.oneCell' = true := by intro u hu; simp at hu; rcases hu with rfl | rfl <;> rfl
        have H2 : k + 1 ≤ maxLen := by unfold maxLen; omega
        have H3 : (k + 1) * 16 ≤ 140737488355328 := by omega
        go_wp2_with (first | (at_builtin; refine wpList_append_lit rfl _ _ 53 rfl 23 i0 _ 2 16 Try.underlying53 hi hz0 hz1 hz2 rfl (by decide) g hr hb rfl 1 rfl rfl H1 (by decide) H2 H3 ?_; intro b cap cs g hb hr) | (with_reducible refine G.any_mark _ ?_; (try generalize Array.size (World.heap (G.w _)) = bk); (try dsimp only [List.set_cons_zero, List.set_cons_succ]); (try clear g); intro g))
        rw [HS.out] at hr
        exact ⟨⟨k + 1, by omega, by go_num, .inr ⟨b, cap, cs, rfl, hb, hr, g, rfl⟩⟩, by simp [intOf]; omega⟩
      · have : k = 64 := by omega
        subst this
        go_wp2_with (with_reducible refine G.any_mark _ ?_; (try generalize Array.size (World.heap (G.w _)) = bk); (try dsimp only [List.set_cons_zero, List.set_cons_succ]); (try clear g); intro g)
        go_ret
        exact ⟨b, cap, cs, rfl, hb, hr, g.blk0, G.below _⟩
end Go.Proofs.Ytgehbebjgmeccaa
