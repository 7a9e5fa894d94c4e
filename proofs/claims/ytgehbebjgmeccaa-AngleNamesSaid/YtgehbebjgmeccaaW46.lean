/- Contracts of functions of the program and of its reference, out of walks. Their conditions stand ahead of each. -/
import Derived.Test.YtgehbebjgmeccaaW45
import Derived.Test.YtgehbebjgmeccaaGx
set_option linter.unusedVariables false
set_option linter.unusedSimpArgs false
namespace Go.Proofs.Ytgehbebjgmeccaa
open Go.RowKit GW
def intK (k : Nat) : List Int := (List.range 64).flatMap fun j => if j < k then [Ang.ti j, Ang.tq j] else [0, 0]
theorem intK_succ : ∀ k : Fin 64, ((intK k.val).set (k.val * 2) (Ang.ti k.val)).set (k.val * 2 + 1) (Ang.tq k.val) = intK (k.val + 1) := by decide +kernel
theorem intK_zero : intK 0 = List.replicate 128 0 := by decide +kernel
theorem intK_len (k : Nat) : (intK k).length = 128 := by
  unfold intK
  rw [List.length_flatMap, show (List.range 64).map (fun a => (if a < k then [Ang.ti a, Ang.tq a] else [0, 0]).length) = (List.range 64).map (fun _ => 2) from List.map_congr_left (fun a _ => by split <;> rfl)]
  rfl
theorem intK_at : ∀ k : Fin 64, (intK 64)[k.val * 2]? = some (Ang.ti k.val) ∧ (intK 64)[k.val * 2 + 1]? = some (Ang.tq k.val) := by decide +kernel
def tabK (k : Nat) : List Value := (intK k).map (Value.int .i64)
theorem tabK_succ (k : Nat) (h : k < 64) : ((tabK k).set (k * 2) (.int .i64 (Ang.ti k))).set (k * 2 + 1) (.int .i64 (Ang.tq k)) = tabK (k + 1) := by
  unfold tabK
  rw [← List.map_set, ← List.map_set, intK_succ ⟨k, h⟩]
theorem tabK_some (k j : Nat) (h : j < 128) : ∃ x, (tabK k)[j]? = some (.int .i64 x) := by
  unfold tabK
  rw [List.getElem?_map, List.getElem?_eq_getElem (by rw [intK_len]; exact h)]
  exact ⟨_, rfl⟩
theorem tabK_at (k : Nat) (h : k < 64) : (tabK 64)[k * 2]? = some (.int .i64 (Ang.ti k)) ∧ (tabK 64)[k * 2 + 1]? = some (.int .i64 (Ang.tq k)) := by
  unfold tabK
  rw [List.getElem?_map, List.getElem?_map, (intK_at ⟨k, h⟩).1, (intK_at ⟨k, h⟩).2]
  exact ⟨rfl, rfl⟩
def Tab (w : World) (e : Ending) (w' : World) : Prop := ∃ b, e = .returned (.slice (some ⟨b, 0, none⟩) 64 64) ∧ w.heap.size ≤ b ∧ w'.heap[b]? = some (.cells (tabK 64).toArray 23 (0, 0)) ∧ Below w.heap.size w w'
theorem info23 : (Try.prog.info? 23).map (fun i => (i.zero, i.size, i.bytes)) = some (some (.agg #[.int .i64 0, .int .i64 0]), 2, 16) := by kernel_rfl
theorem made_tab : madeCells (Value.agg #[.int .i64 0, .int .i64 0]).cells (64 * 2) = (tabK 0).toArray := by
  unfold tabK
  rw [intK_zero]
  kernel_rfl
theorem make53 (w : World) : (Instr.makeSlice 53 (.int .i64 64) (.int .i64 64)).run Try.prog w = .ok (.slice (some ⟨w.heap.size, 0, none⟩) 64 64) (w.alloc (.cells (tabK 0).toArray 23)) := by
  obtain ⟨i0, hi, hz0, hz1, hz2⟩ := info_parts info23
  have h := run_make (P := Try.prog) w 53 23 i0 _ Try.underlying53 hi hz0 .i64 .i64 64 64 (by omega) (by omega) (by rw [hz2]; decide) (by decide)
  rw [hz1] at h
  exact h.trans (by rw [← made_tab]; rfl)
set_option maxRecDepth 100000 in
theorem Table_any (w : World) : Calls Try.prog 57 #[] w (Tab w) := by
  have hmk := Lib.hid make53
  have HK := Lib.hid tabK_some
  have HS := Lib.hid tabK_succ
  refine calls_g fun g => ?_
  go_enter Try.func57, Try.ntmps57
  go_wp2_with (first | (with_reducible refine G.any_mark _ ?_; (try generalize Array.size (World.heap (G.w _)) = bk); (try dsimp only [List.set_cons_zero, List.set_cons_succ]); (try clear g); intro g) | simp only [hmk.out])
  go_loopw [6] (fun i wr => ∃ k : Nat, k ≤ 64 ∧ i = .int .i64 k ∧ ∃ g : G w [] [(bk, 23, tabK k)] [], wr = g.w) (fun i _ => 64 - (intOf i).toNat)
  case atStart => exact ⟨0, by omega, rfl, g, rfl⟩
  case round =>
    obtain ⟨k, hk, rfl, g', rfl⟩ := hrel
    clear g
    revert g'
    intro g
    by_cases hlt : k < 64
    · have k0 : (0 : Int) ≤ k := by omega
      have k1 : (k : Int) < 64 := by omega
      obtain ⟨v0, c0⟩ := HK.out k (k * 2) (by omega)
      obtain ⟨v1, c1⟩ := HK.out k (k * 2 + 1) (by omega)
      go_wp2_with (with_reducible refine G.any_mark _ ?_; (try generalize Array.size (World.heap (G.w _)) = bk); (try dsimp only [List.set_cons_zero, List.set_cons_succ]); (try clear g); intro g)
      refine (entry_any k _).mono ?_; rintro e w1 ⟨rfl, hb⟩; obtain ⟨g1, rfl⟩ := G.call_ex _ hb; clear hb; (try clear g); revert g1; intro g
      go_wp2_with (with_reducible refine G.any_mark _ ?_; (try generalize Array.size (World.heap (G.w _)) = bk); (try dsimp only [List.set_cons_zero, List.set_cons_succ]); (try clear g); intro g)
      exact ⟨⟨k + 1, by omega, by go_num, G.as g (by rw [HS.out k hlt])⟩, by simp [intOf]; omega⟩
    · have : k = 64 := by omega
      subst this
      go_wp2_with (with_reducible refine G.any_mark _ ?_; (try generalize Array.size (World.heap (G.w _)) = bk); (try dsimp only [List.set_cons_zero, List.set_cons_succ]); (try clear g); intro g)
      go_ret
      exact ⟨bk, rfl, g.fresh (List.mem_cons_self ..), g.blk0, G.below _⟩
namespace Ang
theorem d_scale (k x y m : Int) : d k (x * m) (y * m) = m * d k x y := by unfold d; grind
theorem isSec_scale {k x y m : Int} (hm : 0 < m) (h : IsSec k x y) : IsSec k (x * m) (y * m) := by
  rw [isSec_d] at *
  refine ⟨h.1, h.2.1, ?_, ?_⟩
  · rw [d_scale]; exact Int.mul_nonneg (by omega) h.2.2.1
  · rw [d_scale]; exact Int.mul_neg_of_pos_of_neg hm h.2.2.2
theorem ne_scale {x y m : Int} (hm : 0 < m) (h : x ≠ 0 ∨ y ≠ 0) : x * m ≠ 0 ∨ y * m ≠ 0 := by
  rcases h with h | h
  · exact .inl (Int.mul_ne_zero h (by omega))
  · exact .inr (Int.mul_ne_zero h (by omega))
theorem secF_scale {x y m : Int} (hm : 0 < m) (h : x ≠ 0 ∨ y ≠ 0) : secF (x * m) (y * m) = secF x y := secF_eq (isSec_scale hm (secF_is x y h))
theorem fineF_scale {x y m : Int} (hm : 0 < m) : fineF (x * m) (y * m) = fineF x y := by
  by_cases h : x ≠ 0 ∨ y ≠ 0
  · rw [fineF_eq (ne_scale hm h), fineF_eq h, secF_scale hm h]
    unfold fl
    have a := fab (isSec_scale hm (secF_is x y h))
    have b := fab (secF_is x y h)
    rw [a.1, a.2.1, b.1, b.2.1, d_scale, d_scale, show 64 * (m * d (secF x y - 1) x y) = m * (64 * d (secF x y - 1) x y) by grind, show m * d (secF x y - 1) x y + -(m * d (secF x y) x y) = m * (d (secF x y - 1) x y + -d (secF x y) x y) by grind, Int.mul_ediv_mul_of_pos _ _ hm]
  · obtain ⟨rfl, rfl⟩ : x = 0 ∧ y = 0 := by omega
    simp
theorem entry_sec : ∀ k : Fin 64, 0 ≤ d ((k.val : Int) - 1) (ti k.val) (tq k.val) ∧ d (k.val : Int) (ti k.val) (tq k.val) < 0 := by decide +kernel
theorem entry_fine : ∀ k : Fin 64, (fineF (ti k.val) (tq k.val) - 64 * (k.val : Int) + 2) % 4096 ≤ 4 := by decide +kernel
theorem entry_is (k : Nat) (h : k < 64) (m : Int) (hm : 0 < m) : secF (ti k * m) (tq k * m) = k ∧ (fineF (ti k * m) (tq k * m) - 64 * (k : Int) + 2) % 4096 ≤ 4 := by
  have e := entry_sec ⟨k, h⟩
  have s : IsSec k (ti k) (tq k) := isSec_d.2 ⟨by omega, by omega, e.1, e.2⟩
  exact ⟨secF_eq (isSec_scale hm s), by rw [fineF_scale hm]; exact entry_fine ⟨k, h⟩⟩
end Ang
end Go.Proofs.Ytgehbebjgmeccaa
