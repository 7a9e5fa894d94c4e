/- Contracts of functions of the program and of its reference, out of walks. Their conditions stand ahead of each. -/
import Derived.Test.YtgehbebjgmeccaaW28
import Derived.Test.YtgehbebjgmeccaaW8
set_option linter.unusedVariables false
set_option linter.unusedSimpArgs false
namespace Go.Proofs.Ytgehbebjgmeccaa
open Go.RowKit
theorem Carrier_any (p : Int) (h : 0 ≤ p) (h' : p < 4294967296) (w : World) :
    Calls Try.prog 61 #[.int .u32 p] w fun e w' => e = .returned (.agg #[.int .i64 (Ang.ti (p / 67108864)), .int .i64 (Ang.tq (p / 67108864))]) ∧ Below w.heap.size w w' := by
  go_enter Try.func61, Try.ntmps61
  go_wp2_with fail
  refine (entry_any _ _).mono ?_
  rintro e w1 ⟨rfl, hb⟩
  obtain ⟨c1, f1, z1⟩ := step2 (b := w.heap.size) hb (by simp)
  have r0 := (c1 0).trans (show _ = some (.int .i64 0) by simp [go_sem])
  have r1 := (c1 1).trans (show _ = some (.int .i64 0) by simp [go_sem])
  have s0 := (f1 0).trans (show _ = false by simp [go_sem])
  have s1 := (f1 1).trans (show _ = false by simp [go_sem])
  have HB := Lib.hid (((Below.refl w.heap.size w).alloc (Nat.le_refl _) (.cells #[.int .i64 0, .int .i64 0] 23)).trans (hb.mono (by simp)))
  clear hb c1 f1
  go_wp2_with fail
  refine bodyPost_ret (v := .agg #[.int .i64 (Ang.ti (p / 67108864)), .int .i64 (Ang.tq (p / 67108864))]) (by simp [results, Try.results61, go_sem, r0, r1]) rfl ⟨rfl, ?_⟩
  exact (HB.out.setCell (Nat.le_refl _) _).setCell (Nat.le_refl _) _
theorem Delta_any (a b : Int) (h : 0 ≤ a) (h' : a < 4294967296) (g : 0 ≤ b) (g' : b < 4294967296) (w : World) :
    Calls Try.prog 65 #[.int .u32 a, .int .u32 b] w fun e w' => e = .returned (.int .i64 ((a - b + 2147483648) % 4294967296 - 2147483648)) ∧ w = w' := by
  go_enter Try.func65, Try.ntmps65
  go_wp2_with fail
  go_ret
  exact ⟨ret_int (by unfold wrap64 wrap32; omega), rfl⟩
theorem root15 (r : Int) (h : IsRoot r 15) : r = 3 := root_uniq h ⟨by decide, by decide, by decide, by decide⟩
theorem is_yes (n : Int) (w : World) :
    Calls Try.prog 93 #[.int .i64 n, .int .i64 0, .int .i64 n] w fun x w' => x = .returned (.bool true) ∧ w = w' := by
  go_enter Try.func93, Try.ntmps93
  go_wp2_with fail
  go_ret
  exact ⟨by simp, rfl⟩
theorem lives_any (w : World) :
    Calls Try.prog 51 #[] w fun e w' => e = .returned (.bool true) ∧ Below w.heap.size w w' := by
  have e1 : Ang.fineF 100 10 = 65 := by decide +kernel
  have E1 := Lib.hid e1
  have e2 : Ang.ti (67108864 / 67108864) = 126 ∧ Ang.tq (67108864 / 67108864) = 12 := by decide
  have E2 := Lib.hid e2
  clear e1 e2
  go_enter Try.func51, Try.ntmps51
  go_wp2_with fail
  refine (Fine_yes 100 10 (by omega) (by omega) _).mono ?_
  rintro e w1 ⟨rfl, hb⟩
  rw [E1.out]
  have HB1 := Lib.hid hb
  clear hb
  go_wp2_with fail
  refine (Root_any 15 (by omega) (by omega) _).mono ?_
  rintro e w2 ⟨r, hr, rfl, hb⟩
  obtain rfl := root15 r hr
  have HB2 := Lib.hid (HB1.out.trans (hb.mono HB1.out.size))
  clear hb hr
  go_wp2_with fail
  refine (Carrier_any 67108864 (by omega) (by omega) _).mono ?_
  rintro e w3 ⟨rfl, hb⟩
  rw [E2.out.1, E2.out.2]
  have HB3 := Lib.hid (HB2.out.trans (hb.mono HB2.out.size))
  clear hb
  go_wp2_with fail
  refine (Delta_any 0 1 (by omega) (by omega) (by omega) (by omega) _).mono ?_
  rintro e w4 ⟨rfl, rfl⟩
  go_wp2_with fail
  refine (is_yes 65 _).mono ?_
  rintro e w4 ⟨rfl, rfl⟩
  go_wp2_with fail
  refine (is_yes 3 _).mono ?_
  rintro e w4 ⟨rfl, rfl⟩
  go_wp2_with fail
  go_ret
  exact ⟨rfl, HB3.out⟩
theorem tmod_pick (x n : Int) (hn : 0 < n) : (x.tmod n < 0 → x.tmod n + n = x % n) ∧ (¬ x.tmod n < 0 → x.tmod n = x % n) ∧ -n < x.tmod n ∧ x.tmod n < n := by
  have e := @Int.tmod_eq_emod x n
  have h0 := Int.emod_nonneg x (show n ≠ 0 by omega)
  have h1 := Int.emod_lt_of_pos x hn
  split at e
  · rename_i h
    rw [e]; omega
  · rename_i h
    have hd : x % n ≠ 0 := fun hz => h (Or.inr (Int.dvd_of_emod_eq_zero hz))
    rw [e]; omega
theorem pick_any (x n : Int) (h : 1 ≤ n) (hn : n ≤ 1000000000000) (w : World) :
    Calls Try.prog 49 #[.int .i64 x, .int .i64 n] w fun e w' => e = .returned (.int .i64 (x % n)) ∧ w = w' := by
  obtain ⟨t1, t2, t3, t4⟩ := tmod_pick x n (by omega)
  by_cases g : x.tmod n < 0
  · have H := Lib.hid (t1 g)
    clear t1 t2
    go_enter Try.func49, Try.ntmps49
    go_wp2_with fail
    go_ret
    exact ⟨ret_int H.out, rfl⟩
  · have H := Lib.hid (t2 g)
    clear t1 t2
    go_enter Try.func49, Try.ntmps49
    go_wp2_with fail
    go_ret
    exact ⟨ret_int H.out, rfl⟩
theorem grows_law (x y u v : Int) : (0 < x * v - y * u → (Ang.fineF u v - Ang.fineF x y) % 4096 ≤ 2048) ∧ (x * v - y * u < 0 → (Ang.fineF u v - Ang.fineF x y) % 4096 = 0 ∨ 2048 ≤ (Ang.fineF u v - Ang.fineF x y) % 4096) := by
  have hz : (x = 0 ∧ y = 0) ∨ (u = 0 ∧ v = 0) → x * v - y * u = 0 := by
    rintro (⟨rfl, rfl⟩ | ⟨rfl, rfl⟩) <;> simp
  refine ⟨fun h => ?_, fun h => ?_⟩
  · exact Ang.grows (by omega) (by omega) h
  · have e : u * y - v * x = -(x * v - y * u) := by grind
    have := Ang.grows (x := u) (y := v) (u := x) (v := y) (by omega) (by omega) (by omega)
    omega
theorem grows_walk (a b c d : Int) (w : World) :
    Calls Try.prog 9 #[.int .i64 a, .int .i64 b, .int .i64 c, .int .i64 d] w fun e w' => e = .returned (.bool true) ∧ Below w.heap.size w w' := by
  go_enter Try.func9, Try.ntmps9
  go_wp2_with fail
  refine (pick_any a 2000001 (by omega) (by omega) _).mono ?_
  rintro e w1 ⟨rfl, rfl⟩
  have a0 : 0 ≤ a % 2000001 := by omega
  have a1 : a % 2000001 < 2000001 := by omega
  generalize a % 2000001 = A at *
  go_wp2_with fail
  refine (pick_any b 2000001 (by omega) (by omega) _).mono ?_
  rintro e w1 ⟨rfl, rfl⟩
  have b0 : 0 ≤ b % 2000001 := by omega
  have b1 : b % 2000001 < 2000001 := by omega
  generalize b % 2000001 = B at *
  go_wp2_with fail
  refine (pick_any c 2000001 (by omega) (by omega) _).mono ?_
  rintro e w1 ⟨rfl, rfl⟩
  have c0 : 0 ≤ c % 2000001 := by omega
  have c1 : c % 2000001 < 2000001 := by omega
  generalize c % 2000001 = C at *
  go_wp2_with fail
  refine (pick_any d 2000001 (by omega) (by omega) _).mono ?_
  rintro e w1 ⟨rfl, rfl⟩
  have d0 : 0 ≤ d % 2000001 := by omega
  have d1 : d % 2000001 < 2000001 := by omega
  generalize d % 2000001 = D at *
  go_wp2_with fail
  have x0 : -1000000 ≤ A - 1000000 := by omega
  have x1 : A - 1000000 ≤ 1000000 := by omega
  have y0 : -1000000 ≤ B - 1000000 := by omega
  have y1 : B - 1000000 ≤ 1000000 := by omega
  have u0 : -1000000 ≤ C - 1000000 := by omega
  have u1 : C - 1000000 ≤ 1000000 := by omega
  have v0 : -1000000 ≤ D - 1000000 := by omega
  have v1 : D - 1000000 ≤ 1000000 := by omega
  generalize A - 1000000 = x at *
  generalize B - 1000000 = y at *
  generalize C - 1000000 = u at *
  generalize D - 1000000 = v at *
  clear a0 a1 b0 b1 c0 c1 d0 d1
  obtain ⟨p0, p1⟩ := mulbd x v 1000000 1000000 x0 x1 v0 v1
  obtain ⟨p2, p3⟩ := mulbd y u 1000000 1000000 y0 y1 u0 u1
  have hg := grows_law x y u v
  have HG := Lib.hid hg
  clear hg
  obtain ⟨f0, f1⟩ := Ang.fineF_bd x y
  obtain ⟨f2, f3⟩ := Ang.fineF_bd u v
  refine (Fine_yes x y (by omega) (by omega) _).mono ?_
  rintro e w1 ⟨rfl, hb⟩
  have c1_0 := (hb.cell (p := ⟨w.heap.size, 0, none⟩) (by simp; try omega)).trans (show _ = some (.int .i64 x) by simp [go_sem])
  have c1_1 := (hb.cell (p := ⟨w.heap.size, 1, none⟩) (by simp; try omega)).trans (show _ = some (.int .i64 y) by simp [go_sem])
  have c1_2 := (hb.cell (p := ⟨w.heap.size + 1, 0, none⟩) (by simp; try omega)).trans (show _ = some (.int .i64 u) by simp [go_sem])
  have c1_3 := (hb.cell (p := ⟨w.heap.size + 1, 1, none⟩) (by simp; try omega)).trans (show _ = some (.int .i64 v) by simp [go_sem])
  have zz := hb.size
  simp only [World.size_alloc] at zz
  have z1_0 : w.heap.size < w1.heap.size := by omega
  have z1_1 : w.heap.size + 1 < w1.heap.size := by omega
  have HB1 := Lib.hid ((((Below.refl w.heap.size w).alloc (Nat.le_refl _) (.cells #[.int .i64 x, .int .i64 y] 23)).alloc (by simp) (.cells #[.int .i64 u, .int .i64 v] 23)).trans (hb.mono (by simp; omega)))
  clear hb zz
  go_wp2_with fail
  refine (Fine_yes u v (by omega) (by omega) _).mono ?_
  rintro e w2 ⟨rfl, hb⟩
  have c2_0 := (hb.cell (p := ⟨w.heap.size, 0, none⟩) z1_0).trans c1_0
  have c2_1 := (hb.cell (p := ⟨w.heap.size, 1, none⟩) z1_0).trans c1_1
  have c2_2 := (hb.cell (p := ⟨w.heap.size + 1, 0, none⟩) z1_1).trans c1_2
  have c2_3 := (hb.cell (p := ⟨w.heap.size + 1, 1, none⟩) z1_1).trans c1_3
  have z2_0 := Nat.lt_of_lt_of_le z1_0 hb.size
  have z2_1 := Nat.lt_of_lt_of_le z1_1 hb.size
  have HB2 := Lib.hid (HB1.out.trans (hb.mono HB1.out.size))
  clear hb
  go_wp2_with fail
  refine (lives_any _).mono ?_
  rintro e w3 ⟨rfl, hb⟩
  have c3_0 := (hb.cell (p := ⟨w.heap.size, 0, none⟩) z2_0).trans c2_0
  have c3_1 := (hb.cell (p := ⟨w.heap.size, 1, none⟩) z2_0).trans c2_1
  have c3_2 := (hb.cell (p := ⟨w.heap.size + 1, 0, none⟩) z2_1).trans c2_2
  have c3_3 := (hb.cell (p := ⟨w.heap.size + 1, 1, none⟩) z2_1).trans c2_3
  have z3_0 := Nat.lt_of_lt_of_le z2_0 hb.size
  have z3_1 := Nat.lt_of_lt_of_le z2_1 hb.size
  have HB3 := Lib.hid (HB2.out.trans (hb.mono HB2.out.size))
  clear hb c1_0 c1_1 c1_2 c1_3 c2_0 c2_1 c2_2 c2_3 z1_0 z1_1 z2_0 z2_1
  generalize Ang.fineF x y = F at *
  generalize Ang.fineF u v = G at *
  go_wp2_with fail
  refine (pick_any (G - F) 4096 (by omega) (by omega) _).mono ?_
  rintro e w4 ⟨rfl, rfl⟩
  obtain ⟨g1, g2⟩ := HG.out
  generalize (G - F) % 4096 = K at *
  by_cases t1 : 0 < x * v - y * u
  · have hK := g1 t1
    clear g1 g2
    go_wp2_with fail
    all_goals go_ret
    all_goals exact ⟨rfl, HB3.out⟩
  by_cases t2 : x * v - y * u < 0
  · have hK := g2 t2
    clear g1 g2 HG
    rcases hK with hK | hK
    · subst hK
      go_wp2_with fail
      all_goals go_ret
      all_goals exact ⟨rfl, HB3.out⟩
    · have hk0 : (K == 0) = false := by simp; omega
      go_wp2_with fail
      all_goals go_ret
      all_goals exact ⟨rfl, HB3.out⟩
  · clear g1 g2
    go_wp2_with fail
    all_goals go_ret
    all_goals exact ⟨rfl, HB3.out⟩
end Go.Proofs.Ytgehbebjgmeccaa
