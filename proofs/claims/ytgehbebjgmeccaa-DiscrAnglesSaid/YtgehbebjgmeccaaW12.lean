/- Contracts of functions of the program and of its reference, out of walks. Their conditions stand ahead of each. -/
import Derived.Test.YtgehbebjgmeccaaW11
set_option linter.unusedVariables false
set_option linter.unusedSimpArgs false
namespace Go.Proofs.Ytgehbebjgmeccaa
open Go.RowKit
def InB (p : Int × Int) : Prop := -1048576 ≤ p.1 ∧ p.1 ≤ 1048576 ∧ -1048576 ≤ p.2 ∧ p.2 ≤ 1048576
theorem inside_yes (b n : Nat) (l : Nat → Int × Int) (w : World) (hn : n ≤ 100) (hb : b < w.heap.size) (hc : ∀ i, i < n → w.cell? ⟨b, i * 2, none⟩ = some (.int .i64 (l i).1) ∧ w.cell? ⟨b, i * 2 + 1, none⟩ = some (.int .i64 (l i).2)) (hin : ∀ i, i < n → InB (l i)) :
    Calls Try.prog 108 #[.slice (some ⟨b, 0, none⟩) n n] w fun e w' => e = .returned (.bool true) ∧ Below w.heap.size w w' := by
  have HC := Lib.hid hc
  have HI := Lib.hid hin
  clear hc hin
  go_enter Try.func108, Try.ntmps108
  go_wp2_with fail
  go_loopw [7] (fun u wr => ∃ j : Nat, u = .int .i64 j ∧ j ≤ n ∧ Below w.heap.size w wr) (fun u _ => (n - intOf u).toNat)
  case atStart => exact ⟨0, by go_num, by omega, Below.refl _ _⟩
  case round =>
    obtain ⟨j, rfl, jn, hbr⟩ := hrel
    by_cases hlt : j < n
    · have d0 := (hbr.cell (p := ⟨b, j * 2, none⟩) hb).trans (HC.out j hlt).1
      have d1 := (hbr.cell (p := ⟨b, j * 2 + 1, none⟩) hb).trans (HC.out j hlt).2
      obtain ⟨b0, b1, b2, b3⟩ := HI.out j hlt
      generalize (l j).1 = x at *
      generalize (l j).2 = y at *
      have hz := hbr.size
      go_wp2_with fail
      all_goals exact ⟨⟨j + 1, by go_num, by omega, hbr.alloc (by omega) _⟩, by simp [intOf]; omega⟩
    · go_wp2_with fail
      go_ret
      exact ⟨rfl, hbr⟩
theorem inside_no (b n : Nat) (l : Nat → Int × Int) (w : World) (hn : n ≤ 100) (hb : b < w.heap.size) (hc : ∀ i, i < n → w.cell? ⟨b, i * 2, none⟩ = some (.int .i64 (l i).1) ∧ w.cell? ⟨b, i * 2 + 1, none⟩ = some (.int .i64 (l i).2)) (hin : ¬ ∀ i, i < n → InB (l i)) :
    Calls Try.prog 108 #[.slice (some ⟨b, 0, none⟩) n n] w fun e w' => e = .returned (.bool false) ∧ Below w.heap.size w w' := by
  have HC := Lib.hid hc
  have HI := Lib.hid hin
  clear hc hin
  go_enter Try.func108, Try.ntmps108
  go_wp2_with fail
  go_loopw [7] (fun u wr => ∃ j : Nat, u = .int .i64 j ∧ j ≤ n ∧ (∀ t, t < j → InB (l t)) ∧ Below w.heap.size w wr) (fun u _ => (n - intOf u).toNat)
  case atStart => exact ⟨0, by go_num, by omega, fun t h => absurd h (Nat.not_lt_zero _), Below.refl _ _⟩
  case round =>
    obtain ⟨j, rfl, jn, hall, hbr⟩ := hrel
    have HA := Lib.hid hall
    clear hall
    by_cases hlt : j < n
    · have d0 := (hbr.cell (p := ⟨b, j * 2, none⟩) hb).trans (HC.out j hlt).1
      have d1 := (hbr.cell (p := ⟨b, j * 2 + 1, none⟩) hb).trans (HC.out j hlt).2
      have hz := hbr.size
      by_cases hI : InB (l j)
      · have hall2 : ∀ t, t < j + 1 → InB (l t) := by
          intro t ht
          by_cases htj : t = j
          · subst htj; exact hI
          · exact HA.out t (by omega)
        have HA2 := Lib.hid hall2
        clear hall2
        obtain ⟨b0, b1, b2, b3⟩ := hI
        generalize (l j).1 = x at *
        generalize (l j).2 = y at *
        go_wp2_with fail
        all_goals exact ⟨⟨j + 1, by go_num, by omega, HA2.out, hbr.alloc (by omega) _⟩, by simp [intOf]; omega⟩
      · have hI4 : (l j).1 < -1048576 ∨ 1048576 < (l j).1 ∨ (l j).2 < -1048576 ∨ 1048576 < (l j).2 := by unfold InB at hI; omega
        clear hI
        generalize (l j).1 = x at *
        generalize (l j).2 = y at *
        rcases hI4 with h | h | h | h
        all_goals go_wp2_with fail
        all_goals go_ret
        all_goals exact ⟨rfl, hbr.alloc (by omega) _⟩
    · exact absurd (fun t ht => HA.out t (by omega)) HI.out
end Go.Proofs.Ytgehbebjgmeccaa
