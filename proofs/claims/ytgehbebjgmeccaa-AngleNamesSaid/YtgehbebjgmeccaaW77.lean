/- Contracts of functions of the program and of its reference, out of walks. Their conditions stand ahead of each. -/
import Derived.Test.YtgehbebjgmeccaaW76
import Derived.Test.YtgehbebjgmeccaaW48
import Derived.Test.YtgehbebjgmeccaaW33
set_option linter.unusedVariables false
set_option linter.unusedSimpArgs false
namespace Go.Proofs.Ytgehbebjgmeccaa
open Go.RowKit GW
theorem row_tab : row2 64 = tabK 64 := by kernel_rfl
theorem sec_l (x y V : Int) (hx : -70368744177664 ≤ x ∧ x ≤ 70368744177664) (hy : -70368744177664 ≤ y ∧ y ≤ 70368744177664) (hV : Ang.secF x y = V) (w : World) :
    Calls Try.prog 58 #[.agg #[.int .i64 x, .int .i64 y]] w fun e w' => e = .returned (.tuple #[.int .i64 V, .int .i64 0]) ∧ Below w.heap.size w w' := by
  subst hV; exact Sector_yes x y hx hy w
theorem fin_l (x y V : Int) (hx : -70368744177664 ≤ x ∧ x ≤ 70368744177664) (hy : -70368744177664 ≤ y ∧ y ≤ 70368744177664) (hV : Ang.fineF x y = V) (w : World) :
    Calls Try.prog 50 #[.agg #[.int .i64 x, .int .i64 y]] w fun e w' => e = .returned (.tuple #[.int .i64 V, .int .i64 0]) ∧ Below w.heap.size w w' := by
  subst hV; exact Fine_yes x y hx hy w
theorem sample_any (i q : Int) (w : World) : Calls Try.prog 92 #[.agg #[.int .i64 i, .int .i64 q], .int .i64 0, .int .i64 i, .int .i64 q] w fun e w' => e = .returned (.bool true) ∧ Below w.heap.size w w' := by
  refine calls_g fun g => ?_
  go_enter Try.func92, Try.ntmps92
  go_wp2_with (with_reducible refine G.any_mark _ ?_; (try generalize Array.size (World.heap (G.w _)) = bk); (try dsimp only [List.set_cons_zero, List.set_cons_succ]); (try clear g); intro g)
  go_ret
  exact ⟨rfl, G.below _⟩
theorem G_cell {w : World} {M : List Blk} {I : List Frag} (g : G w [] M I) {b : Nat} {T : TypeId} {cs : List Value} (h : (b, T, cs) ∈ M) (j : Nat) : g.w.cell? ⟨b, j, none⟩ = cs[j]? := by
  have := g.own _ h
  simp only at this
  simp [World.cell?, this]
theorem tab_x (j : Nat) (h : j < 64 * 2) : (tabK 64)[j]? = some (.int .i64 ((intK 64)[j]?.getD 0)) := by
  unfold tabK
  rw [List.getElem?_map, List.getElem?_eq_getElem (by rw [intK_len]; omega)]
  rfl
theorem row_x {cap : Nat} {cs : List Value} (h : Row 23 2 64 (row2 64) cap cs) (j : Nat) (hj : j < 64 * 2) : cs[j]? = some (.int .i64 ((intK 64)[j]?.getD 0)) := by
  have := h.take
  rw [← tab_x j hj, ← row_tab, ← this, List.getElem?_take, if_pos hj]
set_option maxHeartbeats 8000000 in
set_option maxRecDepth 100000 in
theorem anames_walk (w : World) : Calls Try.prog 20 #[] w fun e w' => e = .returned (.bool true) ∧ Below w.heap.size w w' := by
  have c1 : ∀ w, Calls Try.prog 61 #[.int .u32 0] w fun e w' => e = .returned (.agg #[.int .i64 127, .int .i64 0]) ∧ Below w.heap.size w w' := fun w => Carrier_any 0 (by decide) (by decide) w
  have c2 : ∀ w, Calls Try.prog 61 #[.int .u32 4294967295] w fun e w' => e = .returned (.agg #[.int .i64 126, .int .i64 (-12)]) ∧ Below w.heap.size w w' := fun w => Carrier_any 4294967295 (by decide) (by decide) w
  have c3 : ∀ w, Calls Try.prog 63 #[.int .u32 4294967295, .int .u32 2, .int .i64 1] w fun e w' => e = .returned (.int .u32 1) ∧ w = w' := fun w => Advance_any 4294967295 2 1 w
  have c4 : ∀ w, Calls Try.prog 63 #[.int .u32 5, .int .u32 3, .int .i64 (-2)] w fun e w' => e = .returned (.int .u32 4294967295) ∧ w = w' := fun w => Advance_any 5 3 (-2) w
  have c5 : ∀ w, Calls Try.prog 65 #[.int .u32 2147483648, .int .u32 0] w fun e w' => e = .returned (.int .i64 (-2147483648)) ∧ w = w' := fun w => Delta_any 2147483648 0 (by decide) (by decide) (by decide) (by decide) w
  have c6 : ∀ w, Calls Try.prog 65 #[.int .u32 1, .int .u32 4294967295] w fun e w' => e = .returned (.int .i64 2) ∧ w = w' := fun w => Delta_any 1 4294967295 (by decide) (by decide) (by decide) (by decide) w
  have c7 : ∀ w, Calls Try.prog 59 #[.agg #[.int .i64 126, .int .i64 12], .int .u32 67108864] w fun e w' => e = .returned (.tuple #[.agg #[.int .i64 16020, .int .i64 0], .int .i64 0]) ∧ Below w.heap.size w w' := fun w => Wipe_yes 126 12 67108864 (by decide) (by decide) (by unfold Sm; decide) w
  have c8 : ∀ w, Calls Try.prog 59 #[.agg #[.int .i64 0, .int .i64 127], .int .u32 0] w fun e w' => e = .returned (.tuple #[.agg #[.int .i64 0, .int .i64 16129], .int .i64 0]) ∧ Below w.heap.size w w' := fun w => Wipe_yes 0 127 0 (by decide) (by decide) (by unfold Sm; decide) w
  have c9 : ∀ w, Calls Try.prog 58 #[.agg #[.int .i64 126, .int .i64 12]] w fun e w' => e = .returned (.tuple #[.int .i64 1, .int .i64 0]) ∧ Below w.heap.size w w' := fun w => sec_l 126 12 1 ⟨by decide, by decide⟩ ⟨by decide, by decide⟩ (by decide +kernel) w
  have c10 : ∀ w, Calls Try.prog 58 #[.agg #[.int .i64 0, .int .i64 0]] w fun e w' => e = .returned (.tuple #[.int .i64 0, .int .i64 0]) ∧ Below w.heap.size w w' := fun w => sec_l 0 0 0 ⟨by decide, by decide⟩ ⟨by decide, by decide⟩ (by decide +kernel) w
  have c11 : ∀ w, Calls Try.prog 58 #[.agg #[.int .i64 (-5), .int .i64 0]] w fun e w' => e = .returned (.tuple #[.int .i64 32, .int .i64 0]) ∧ Below w.heap.size w w' := fun w => sec_l (-5) 0 32 ⟨by decide, by decide⟩ ⟨by decide, by decide⟩ (by decide +kernel) w
  have c12 : ∀ w, Calls Try.prog 58 #[.agg #[.int .i64 0, .int .i64 (-1)]] w fun e w' => e = .returned (.tuple #[.int .i64 48, .int .i64 0]) ∧ Below w.heap.size w w' := fun w => sec_l 0 (-1) 48 ⟨by decide, by decide⟩ ⟨by decide, by decide⟩ (by decide +kernel) w
  have c13 : ∀ w, Calls Try.prog 58 #[.agg #[.int .i64 70368744177665, .int .i64 0]] w fun e w' => e = .returned (.tuple #[.int .i64 0, .int .i64 2]) ∧ Below w.heap.size w w' := fun w => Sector_no 70368744177665 0 (by decide) w
  have c14 : ∀ w, Calls Try.prog 58 #[.agg #[.int .i64 (-70368744177664), .int .i64 70368744177664]] w fun e w' => e = .returned (.tuple #[.int .i64 24, .int .i64 0]) ∧ Below w.heap.size w w' := fun w => sec_l (-70368744177664) 70368744177664 24 ⟨by decide, by decide⟩ ⟨by decide, by decide⟩ (by decide +kernel) w
  have c15 : ∀ w, Calls Try.prog 50 #[.agg #[.int .i64 1, .int .i64 0]] w fun e w' => e = .returned (.tuple #[.int .i64 0, .int .i64 0]) ∧ Below w.heap.size w w' := fun w => fin_l 1 0 0 ⟨by decide, by decide⟩ ⟨by decide, by decide⟩ (by decide +kernel) w
  have c16 : ∀ w, Calls Try.prog 50 #[.agg #[.int .i64 0, .int .i64 1]] w fun e w' => e = .returned (.tuple #[.int .i64 1024, .int .i64 0]) ∧ Below w.heap.size w w' := fun w => fin_l 0 1 1024 ⟨by decide, by decide⟩ ⟨by decide, by decide⟩ (by decide +kernel) w
  have c17 : ∀ w, Calls Try.prog 50 #[.agg #[.int .i64 (-1), .int .i64 (-1)]] w fun e w' => e = .returned (.tuple #[.int .i64 2560, .int .i64 0]) ∧ Below w.heap.size w w' := fun w => fin_l (-1) (-1) 2560 ⟨by decide, by decide⟩ ⟨by decide, by decide⟩ (by decide +kernel) w
  have c18 : ∀ w, Calls Try.prog 78 #[.agg #[.int .i64 3, .int .i64 (-4)]] w fun e w' => e = .returned (.tuple #[.int .i64 25, .int .i64 0]) ∧ Below w.heap.size w w' := by
    have hs : Sm 3 (-4) := by unfold Sm; decide
    have hr : Fx.R64 ((3 : Int) * 3 + -4 * -4) := ⟨by decide, by decide⟩
    exact fun w => Power_w 3 (-4) 25 0 (by rw [(pw_yes hs).1, (Fx.nw_yes hr).2]; decide) (by rw [(pw_yes hs).2, (Fx.nw_yes hr).1]) w
  have c19 : ∀ w, Calls Try.prog 78 #[.agg #[.int .i64 4294967296, .int .i64 0]] w fun e w' => e = .returned (.tuple #[.int .i64 0, .int .i64 5]) ∧ Below w.heap.size w w' := by
    have hs : Sm 4294967296 0 := by unfold Sm; decide
    have hr : ¬ Fx.R64 ((4294967296 : Int) * 4294967296 + 0 * 0) := by unfold Fx.R64; omega
    exact fun w => Power_w 4294967296 0 0 5 (by rw [(pw_yes hs).1, (Fx.nw_no hr).2]) (by rw [(pw_yes hs).2, (Fx.nw_no hr).1]) w
  have c20 : ∀ w, Calls Try.prog 52 #[.int .i64 16] w fun e w' => e = .returned (.tuple #[.int .i64 4, .int .i64 0]) ∧ Below w.heap.size w w' := by
    intro w
    refine (Root_any 16 (by decide) (by decide) w).mono ?_
    rintro e w' ⟨r, hr, rfl, hb⟩
    obtain rfl : r = 4 := root_uniq hr (by unfold IsRoot; decide)
    exact ⟨rfl, hb⟩
  have c21 : ∀ w, Calls Try.prog 52 #[.int .i64 (-1)] w fun e w' => e = .returned (.tuple #[.int .i64 0, .int .i64 2]) ∧ Below w.heap.size w w' := fun w => Root_neg (-1) (by decide) w
  have c22 : ∀ w, Calls Try.prog 54 #[.agg #[.int .i64 1, .int .u64 0]] w fun e w' => e = .returned (.tuple #[.int .i64 4294967296, .int .i64 0]) ∧ Below w.heap.size w w' := by
    intro w
    refine (RootWide_any 1 0 (by decide) (by decide) (by decide) (by decide) w).mono ?_
    rintro e w' ⟨r, hr, rfl, hb⟩
    obtain rfl : r = 4294967296 := root_uniq hr (by unfold IsRoot; decide)
    exact ⟨rfl, hb⟩
  have c23 : ∀ w, Calls Try.prog 54 #[.agg #[.int .i64 4611686018427387904, .int .u64 0]] w fun e w' => e = .returned (.tuple #[.int .i64 0, .int .i64 5]) ∧ Below w.heap.size w w' := fun w => RootWide_over 4611686018427387904 0 (by decide) w
  have c24 : ∀ w, Calls Try.prog 54 #[.agg #[.int .i64 4611686018427387903, .int .u64 18446744073709551615]] w fun e w' => e = .returned (.tuple #[.int .i64 9223372036854775807, .int .i64 0]) ∧ Below w.heap.size w w' := by
    intro w
    refine (RootWide_any 4611686018427387903 18446744073709551615 (by decide) (by decide) (by decide) (by decide) w).mono ?_
    rintro e w' ⟨r, hr, rfl, hb⟩
    obtain rfl : r = 9223372036854775807 := root_uniq hr (by unfold IsRoot; decide)
    exact ⟨rfl, hb⟩
  have C1 := Lib.hid c1
  have C2 := Lib.hid c2
  have C3 := Lib.hid c3
  have C4 := Lib.hid c4
  have C5 := Lib.hid c5
  have C6 := Lib.hid c6
  have C7 := Lib.hid c7
  have C8 := Lib.hid c8
  have C9 := Lib.hid c9
  have C10 := Lib.hid c10
  have C11 := Lib.hid c11
  have C12 := Lib.hid c12
  have C13 := Lib.hid c13
  have C14 := Lib.hid c14
  have C15 := Lib.hid c15
  have C16 := Lib.hid c16
  have C17 := Lib.hid c17
  have C18 := Lib.hid c18
  have C19 := Lib.hid c19
  have C20 := Lib.hid c20
  have C21 := Lib.hid c21
  have C22 := Lib.hid c22
  have C23 := Lib.hid c23
  have C24 := Lib.hid c24
  clear c1 c2 c3 c4 c5 c6 c7 c8 c9 c10 c11 c12 c13 c14 c15 c16 c17 c18 c19 c20 c21 c22 c23 c24
  have TX := Lib.hid tab_x
  obtain ⟨T, hT⟩ : ∃ T, tabK 64 = T := ⟨_, rfl⟩
  rw [hT] at TX
  have t0 : T[0]? = some (.int .i64 127) := by rw [← hT]; exact (tabK_at 0 (by decide)).1
  have t1 : T[1]? = some (.int .i64 0) := by rw [← hT]; exact (tabK_at 0 (by decide)).2
  have t2 : T[2]? = some (.int .i64 126) := by rw [← hT]; exact (tabK_at 1 (by decide)).1
  have t3 : T[3]? = some (.int .i64 12) := by rw [← hT]; exact (tabK_at 1 (by decide)).2
  have t16 : T[16]? = some (.int .i64 90) := by rw [← hT]; exact (tabK_at 8 (by decide)).1
  have t17 : T[17]? = some (.int .i64 90) := by rw [← hT]; exact (tabK_at 8 (by decide)).2
  have t32 : T[32]? = some (.int .i64 0) := by rw [← hT]; exact (tabK_at 16 (by decide)).1
  have t33 : T[33]? = some (.int .i64 127) := by rw [← hT]; exact (tabK_at 16 (by decide)).2
  have t80 : T[80]? = some (.int .i64 (-90)) := by rw [← hT]; exact (tabK_at 40 (by decide)).1
  have t81 : T[81]? = some (.int .i64 (-90)) := by rw [← hT]; exact (tabK_at 40 (by decide)).2
  have t126 : T[126]? = some (.int .i64 126) := by rw [← hT]; exact (tabK_at 63 (by decide)).1
  have t127 : T[127]? = some (.int .i64 (-12)) := by rw [← hT]; exact (tabK_at 63 (by decide)).2
  refine calls_g fun g => ?_
  go_enter Try.func20, Try.ntmps20
  go_wp2_with (with_reducible refine G.any_mark _ ?_; (try generalize Array.size (World.heap (G.w _)) = bk); (try dsimp only [List.set_cons_zero, List.set_cons_succ]); (try clear g); intro g)
  refine (lives_any _).mono ?_; rintro e w1 ⟨rfl, hb⟩; obtain ⟨g1, rfl⟩ := G.call_ex _ hb; clear hb; (try clear g); revert g1; intro g
  go_wp2_with (with_reducible refine G.any_mark _ ?_; (try generalize Array.size (World.heap (G.w _)) = bk); (try dsimp only [List.set_cons_zero, List.set_cons_succ]); (try clear g); intro g)
  refine (Table_any _).mono ?_
  rintro e w1 ⟨bT, rfl, hb0, hh, hb⟩
  rw [hT] at hh
  obtain ⟨g1, rfl⟩ := G.own_ex g hb hb0 hh
  clear hb hb0 hh g; revert g1; intro g
  go_wp2_with (with_reducible refine G.any_mark _ ?_; (try generalize Array.size (World.heap (G.w _)) = bk); (try dsimp only [List.set_cons_zero, List.set_cons_succ]); (try clear g); intro g)
  refine (rTable_any _).mono ?_
  rintro e w1 ⟨bR, cap, cs, rfl, hb0, hr, hh, hb⟩
  have RX := Lib.hid (row_x hr)
  clear hr
  obtain ⟨g1, rfl⟩ := G.own_ex g hb hb0 hh
  clear hb hb0 hh g; revert g1; intro g
  go_wp2_with (with_reducible refine G.any_mark _ ?_; (try generalize Array.size (World.heap (G.w _)) = bk); (try dsimp only [List.set_cons_zero, List.set_cons_succ]); (try clear g); intro g)
  refine (same_any bT bR 64 cap 64 (fun j => (intK 64)[j]?.getD 0) (by decide) _ (fun j hj => by rw [G_cell g (List.mem_cons_of_mem _ (List.mem_cons_self ..))]; exact TX.out j hj) (fun j hj => by rw [G_cell g (List.mem_cons_self ..)]; exact RX.out j hj)).mono ?_
  rintro e w1 ⟨rfl, hb⟩; obtain ⟨g1, rfl⟩ := G.call_ex _ hb; clear hb; (try clear g); revert g1; intro g
  clear RX
  obtain ⟨g1, e1⟩ := g.less (M' := [(bT, 23, T)]) (List.sublist_cons_self _ _)
  rw [e1]
  clear e1 g; revert g1; intro g
  go_wp2_with (with_reducible refine G.any_mark _ ?_; (try generalize Array.size (World.heap (G.w _)) = bk); (try dsimp only [List.set_cons_zero, List.set_cons_succ]); (try clear g); intro g)
  go_region_held3 (G.held g) (simp [G.held, HeldL, go_sem]) (first | (go_at_call 61; (first | (refine (C1.out _).mono ?_; rintro e w1 ⟨rfl, hb⟩; obtain ⟨g1, rfl⟩ := G.call_ex _ hb; clear hb; (try clear g); revert g1; intro g) | (refine (C2.out _).mono ?_; rintro e w1 ⟨rfl, hb⟩; obtain ⟨g1, rfl⟩ := G.call_ex _ hb; clear hb; (try clear g); revert g1; intro g))) | (go_at_call 63; (first | (with_reducible refine (C3.out _).mono ?_; rintro e w1 ⟨rfl, rfl⟩) | (with_reducible refine (C4.out _).mono ?_; rintro e w1 ⟨rfl, rfl⟩))) | (go_at_call 65; (first | (with_reducible refine (C5.out _).mono ?_; rintro e w1 ⟨rfl, rfl⟩) | (with_reducible refine (C6.out _).mono ?_; rintro e w1 ⟨rfl, rfl⟩))))
  ((try simp only [G.drew_eq, G.drewN_eq]); (refine G.any_mark _ ?_; (try generalize Array.size (World.heap (G.w _)) = bk); (try dsimp only [List.set_cons_zero, List.set_cons_succ]); (try clear g); intro g))
  go_wp2_with (first | (with_reducible refine G.any_mark _ ?_; (try generalize Array.size (World.heap (G.w _)) = bk); (try dsimp only [List.set_cons_zero, List.set_cons_succ]); (try clear g); intro g) | (go_at_call 93; go_in) | (go_at_call 94; go_in) | go_back)
  refine (C7.out _).mono ?_; rintro e w1 ⟨rfl, hb⟩; obtain ⟨g1, rfl⟩ := G.call_ex _ hb; clear hb; (try clear g); revert g1; intro g
  go_wp2_with (first | (with_reducible refine G.any_mark _ ?_; (try generalize Array.size (World.heap (G.w _)) = bk); (try dsimp only [List.set_cons_zero, List.set_cons_succ]); (try clear g); intro g) | (go_at_call 93; go_in) | (go_at_call 94; go_in) | go_back)
  refine (C8.out _).mono ?_; rintro e w1 ⟨rfl, hb⟩; obtain ⟨g1, rfl⟩ := G.call_ex _ hb; clear hb; (try clear g); revert g1; intro g
  go_wp2_with (first | (with_reducible refine G.any_mark _ ?_; (try generalize Array.size (World.heap (G.w _)) = bk); (try dsimp only [List.set_cons_zero, List.set_cons_succ]); (try clear g); intro g) | (go_at_call 93; go_in) | (go_at_call 94; go_in) | go_back)
  refine (C9.out _).mono ?_; rintro e w1 ⟨rfl, hb⟩; obtain ⟨g1, rfl⟩ := G.call_ex _ hb; clear hb; (try clear g); revert g1; intro g
  go_wp2_with (first | (with_reducible refine G.any_mark _ ?_; (try generalize Array.size (World.heap (G.w _)) = bk); (try dsimp only [List.set_cons_zero, List.set_cons_succ]); (try clear g); intro g) | (go_at_call 93; go_in) | (go_at_call 94; go_in) | go_back)
  refine (C10.out _).mono ?_; rintro e w1 ⟨rfl, hb⟩; obtain ⟨g1, rfl⟩ := G.call_ex _ hb; clear hb; (try clear g); revert g1; intro g
  go_wp2_with (first | (with_reducible refine G.any_mark _ ?_; (try generalize Array.size (World.heap (G.w _)) = bk); (try dsimp only [List.set_cons_zero, List.set_cons_succ]); (try clear g); intro g) | (go_at_call 93; go_in) | (go_at_call 94; go_in) | go_back)
  refine (C11.out _).mono ?_; rintro e w1 ⟨rfl, hb⟩; obtain ⟨g1, rfl⟩ := G.call_ex _ hb; clear hb; (try clear g); revert g1; intro g
  go_wp2_with (first | (with_reducible refine G.any_mark _ ?_; (try generalize Array.size (World.heap (G.w _)) = bk); (try dsimp only [List.set_cons_zero, List.set_cons_succ]); (try clear g); intro g) | (go_at_call 93; go_in) | (go_at_call 94; go_in) | go_back)
  refine (C12.out _).mono ?_; rintro e w1 ⟨rfl, hb⟩; obtain ⟨g1, rfl⟩ := G.call_ex _ hb; clear hb; (try clear g); revert g1; intro g
  go_wp2_with (first | (with_reducible refine G.any_mark _ ?_; (try generalize Array.size (World.heap (G.w _)) = bk); (try dsimp only [List.set_cons_zero, List.set_cons_succ]); (try clear g); intro g) | (go_at_call 93; go_in) | (go_at_call 94; go_in) | go_back)
  refine (C13.out _).mono ?_; rintro e w1 ⟨rfl, hb⟩; obtain ⟨g1, rfl⟩ := G.call_ex _ hb; clear hb; (try clear g); revert g1; intro g
  go_wp2_with (first | (with_reducible refine G.any_mark _ ?_; (try generalize Array.size (World.heap (G.w _)) = bk); (try dsimp only [List.set_cons_zero, List.set_cons_succ]); (try clear g); intro g) | (go_at_call 93; go_in) | (go_at_call 94; go_in) | go_back)
  refine (C14.out _).mono ?_; rintro e w1 ⟨rfl, hb⟩; obtain ⟨g1, rfl⟩ := G.call_ex _ hb; clear hb; (try clear g); revert g1; intro g
  go_wp2_with (first | (with_reducible refine G.any_mark _ ?_; (try generalize Array.size (World.heap (G.w _)) = bk); (try dsimp only [List.set_cons_zero, List.set_cons_succ]); (try clear g); intro g) | (go_at_call 93; go_in) | (go_at_call 94; go_in) | go_back)
  refine (sample_any _ _ _).mono ?_; rintro e w1 ⟨rfl, hb⟩; obtain ⟨g1, rfl⟩ := G.call_ex _ hb; clear hb; (try clear g); revert g1; intro g
  go_wp2_with (first | (with_reducible refine G.any_mark _ ?_; (try generalize Array.size (World.heap (G.w _)) = bk); (try dsimp only [List.set_cons_zero, List.set_cons_succ]); (try clear g); intro g) | (go_at_call 93; go_in) | (go_at_call 94; go_in) | go_back)
  refine (sample_any _ _ _).mono ?_; rintro e w1 ⟨rfl, hb⟩; obtain ⟨g1, rfl⟩ := G.call_ex _ hb; clear hb; (try clear g); revert g1; intro g
  go_wp2_with (first | (with_reducible refine G.any_mark _ ?_; (try generalize Array.size (World.heap (G.w _)) = bk); (try dsimp only [List.set_cons_zero, List.set_cons_succ]); (try clear g); intro g) | (go_at_call 93; go_in) | (go_at_call 94; go_in) | go_back)
  refine (C15.out _).mono ?_; rintro e w1 ⟨rfl, hb⟩; obtain ⟨g1, rfl⟩ := G.call_ex _ hb; clear hb; (try clear g); revert g1; intro g
  go_wp2_with (first | (with_reducible refine G.any_mark _ ?_; (try generalize Array.size (World.heap (G.w _)) = bk); (try dsimp only [List.set_cons_zero, List.set_cons_succ]); (try clear g); intro g) | (go_at_call 93; go_in) | (go_at_call 94; go_in) | go_back)
  refine (C16.out _).mono ?_; rintro e w1 ⟨rfl, hb⟩; obtain ⟨g1, rfl⟩ := G.call_ex _ hb; clear hb; (try clear g); revert g1; intro g
  go_wp2_with (first | (with_reducible refine G.any_mark _ ?_; (try generalize Array.size (World.heap (G.w _)) = bk); (try dsimp only [List.set_cons_zero, List.set_cons_succ]); (try clear g); intro g) | (go_at_call 93; go_in) | (go_at_call 94; go_in) | go_back)
  refine (C17.out _).mono ?_; rintro e w1 ⟨rfl, hb⟩; obtain ⟨g1, rfl⟩ := G.call_ex _ hb; clear hb; (try clear g); revert g1; intro g
  go_wp2_with (first | (with_reducible refine G.any_mark _ ?_; (try generalize Array.size (World.heap (G.w _)) = bk); (try dsimp only [List.set_cons_zero, List.set_cons_succ]); (try clear g); intro g) | (go_at_call 93; go_in) | (go_at_call 94; go_in) | go_back)
  refine (C18.out _).mono ?_; rintro e w1 ⟨rfl, hb⟩; obtain ⟨g1, rfl⟩ := G.call_ex _ hb; clear hb; (try clear g); revert g1; intro g
  go_wp2_with (first | (with_reducible refine G.any_mark _ ?_; (try generalize Array.size (World.heap (G.w _)) = bk); (try dsimp only [List.set_cons_zero, List.set_cons_succ]); (try clear g); intro g) | (go_at_call 93; go_in) | (go_at_call 94; go_in) | go_back)
  refine (C19.out _).mono ?_; rintro e w1 ⟨rfl, hb⟩; obtain ⟨g1, rfl⟩ := G.call_ex _ hb; clear hb; (try clear g); revert g1; intro g
  go_wp2_with (first | (with_reducible refine G.any_mark _ ?_; (try generalize Array.size (World.heap (G.w _)) = bk); (try dsimp only [List.set_cons_zero, List.set_cons_succ]); (try clear g); intro g) | (go_at_call 93; go_in) | (go_at_call 94; go_in) | go_back)
  refine (C20.out _).mono ?_; rintro e w1 ⟨rfl, hb⟩; obtain ⟨g1, rfl⟩ := G.call_ex _ hb; clear hb; (try clear g); revert g1; intro g
  go_wp2_with (first | (with_reducible refine G.any_mark _ ?_; (try generalize Array.size (World.heap (G.w _)) = bk); (try dsimp only [List.set_cons_zero, List.set_cons_succ]); (try clear g); intro g) | (go_at_call 93; go_in) | (go_at_call 94; go_in) | go_back)
  refine (C21.out _).mono ?_; rintro e w1 ⟨rfl, hb⟩; obtain ⟨g1, rfl⟩ := G.call_ex _ hb; clear hb; (try clear g); revert g1; intro g
  go_wp2_with (first | (with_reducible refine G.any_mark _ ?_; (try generalize Array.size (World.heap (G.w _)) = bk); (try dsimp only [List.set_cons_zero, List.set_cons_succ]); (try clear g); intro g) | (go_at_call 93; go_in) | (go_at_call 94; go_in) | go_back)
  refine (C22.out _).mono ?_; rintro e w1 ⟨rfl, hb⟩; obtain ⟨g1, rfl⟩ := G.call_ex _ hb; clear hb; (try clear g); revert g1; intro g
  go_wp2_with (first | (with_reducible refine G.any_mark _ ?_; (try generalize Array.size (World.heap (G.w _)) = bk); (try dsimp only [List.set_cons_zero, List.set_cons_succ]); (try clear g); intro g) | (go_at_call 93; go_in) | (go_at_call 94; go_in) | go_back)
  refine (C23.out _).mono ?_; rintro e w1 ⟨rfl, hb⟩; obtain ⟨g1, rfl⟩ := G.call_ex _ hb; clear hb; (try clear g); revert g1; intro g
  go_wp2_with (first | (with_reducible refine G.any_mark _ ?_; (try generalize Array.size (World.heap (G.w _)) = bk); (try dsimp only [List.set_cons_zero, List.set_cons_succ]); (try clear g); intro g) | (go_at_call 93; go_in) | (go_at_call 94; go_in) | go_back)
  refine (C24.out _).mono ?_; rintro e w1 ⟨rfl, hb⟩; obtain ⟨g1, rfl⟩ := G.call_ex _ hb; clear hb; (try clear g); revert g1; intro g
  go_wp2_with (first | (with_reducible refine G.any_mark _ ?_; (try generalize Array.size (World.heap (G.w _)) = bk); (try dsimp only [List.set_cons_zero, List.set_cons_succ]); (try clear g); intro g) | (go_at_call 93; go_in) | (go_at_call 94; go_in) | go_back)
  go_ret
  exact ⟨rfl, G.below _⟩
end Go.Proofs.Ytgehbebjgmeccaa
