/- Contracts of functions of the program and of its reference, out of walks. Their conditions stand ahead of each. -/
import Derived.Test.YtgehbebjgmeccaaW22
set_option linter.unusedVariables false
set_option linter.unusedSimpArgs false
namespace Go.Proofs.Ytgehbebjgmeccaa
open Go.RowKit
theorem tmod_turn (x n : Int) (hn : 0 < n) : (x.tmod n < 0 → x.tmod n + n = x % n) ∧ (¬ x.tmod n < 0 → x.tmod n = x % n) ∧ -n < x.tmod n ∧ x.tmod n < n := by
  have e := @Int.tmod_eq_emod x n
  have h0 := Int.emod_nonneg x (show n ≠ 0 by omega)
  have h1 := Int.emod_lt_of_pos x hn
  split at e
  · rename_i h
    rw [e]; omega
  · rename_i h
    have hd : x % n ≠ 0 := fun hz => h (Or.inr (Int.dvd_of_emod_eq_zero hz))
    rw [e]; omega
theorem kturn_any (x n : Int) (h : 1 ≤ n) (hn : n ≤ 1000000000000) (w : World) :
    Calls Try.prog 43 #[.int .i64 x, .int .i64 n] w fun e w' => e = .returned (.int .i64 (x % n)) ∧ w = w' := by
  obtain ⟨t1, t2, t3, t4⟩ := tmod_turn x n (by omega)
  by_cases g : x.tmod n < 0
  · have H := Lib.hid (t1 g)
    clear t1 t2
    go_enter Try.func43, Try.ntmps43
    go_wp2_with fail
    go_ret
    exact ⟨ret_int H.out, rfl⟩
  · have H := Lib.hid (t2 g)
    clear t1 t2
    go_enter Try.func43, Try.ntmps43
    go_wp2_with fail
    go_ret
    exact ⟨ret_int H.out, rfl⟩
def Bd5 (x : Int) : Prop := -500 ≤ x ∧ x ≤ 500
def SumRes (w : World) (e : Ending) (w' : World) : Prop := ∃ a b : Int, Bd5 a ∧ Bd5 b ∧ e = .returned (.agg #[.int .i64 a, .int .i64 b]) ∧ Below w.heap.size w w'
theorem sum_any (n : Int) (w : World) : Calls Try.prog 42 #[.int .i64 n] w (SumRes w) := by
  go_enter Try.func42, Try.ntmps42
  go_wp2_with fail
  refine (kturn_any n 1001 (by omega) (by omega) _).mono ?_
  rintro e w1 ⟨rfl, rfl⟩
  have b1 : 0 ≤ n % 1001 := by omega
  have b2 : n % 1001 < 1001 := by omega
  generalize n % 1001 = x at *
  go_wp2_with fail
  refine (kturn_any _ 1001 (by omega) (by omega) _).mono ?_
  rintro e w1 ⟨rfl, rfl⟩
  have b3 : 0 ≤ wrap64 (n.tdiv 1001) % 1001 := by omega
  have b4 : wrap64 (n.tdiv 1001) % 1001 < 1001 := by omega
  generalize wrap64 (n.tdiv 1001) % 1001 = y at *
  go_wp2_with fail
  refine bodyPost_ret (v := .agg #[.int .i64 (x - 500), .int .i64 (y - 500)]) (by simp [results, Try.results42, go_sem]) rfl ⟨_, _, ⟨?_, ?_⟩, ⟨?_, ?_⟩, rfl, (Below.refl _ _).alloc (Nat.le_refl _) _⟩
  all_goals omega
theorem bd_in {a b : Int} (h : Bd5 a) (h' : Bd5 b) : InB (a, b) := by unfold Bd5 at *; unfold InB; simp only; omega
theorem share_swap (u v : Int) (hu : 0 ≤ u) (hv : 0 ≤ v) : shareF (v - u) (v + u) = - shareF (u - v) (u + v) := by
  unfold shareF
  rw [Int.add_comm v u]
  by_cases h : u + v = 0
  · rw [if_pos h, if_pos h]; rfl
  · rw [if_neg h, if_neg h]
    by_cases g : v - u < 0
    · rw [if_pos g, if_neg (by omega), show -(v - u) = u - v from by omega]
    · rw [if_neg g]
      by_cases g2 : u - v < 0
      · rw [if_pos g2, show -(u - v) = v - u from by omega, Int.neg_neg]
      · have e : u = v := by omega
        subst e
        rw [if_neg g2, show u - u = 0 from by omega]
        have e2 : (2048 * 0 + (u + u)) / (2 * (u + u)) = 0 := Int.ediv_eq_zero_of_lt (by omega) (by omega)
        rw [e2]; rfl
theorem share_scale (u v k : Int) (hk : 0 < k) (hv : 0 ≤ v) : shareF (k * u) (k * v) = shareF u v := by
  unfold shareF
  by_cases h : v = 0
  · subst h; rw [if_pos (by simp), if_pos rfl]
  · have hkv : k * v ≠ 0 := Int.mul_ne_zero (by omega) h
    rw [if_neg hkv, if_neg h]
    by_cases g : u < 0
    · rw [if_pos (Int.mul_neg_of_pos_of_neg hk g), if_pos g]
      rw [show 2048 * -(k * u) + k * v = k * (2048 * -u + v) from by grind, show 2 * (k * v) = k * (2 * v) from by grind, Int.mul_ediv_mul_of_pos _ _ hk]
    · have : ¬ k * u < 0 := by have := Int.mul_nonneg (Int.le_of_lt hk) (show 0 ≤ u by omega); omega
      rw [if_neg this, if_neg g]
      rw [show 2048 * (k * u) + k * v = k * (2048 * u + v) from by grind, show 2 * (k * v) = k * (2 * v) from by grind, Int.mul_ediv_mul_of_pos _ _ hk]
theorem sq_nn (x : Int) : 0 ≤ x * x := by
  rcases Int.le_total 0 x with h | h
  · exact Int.mul_nonneg h h
  · exact Int.mul_nonneg_of_nonpos_of_nonpos h h
theorem code_swap (a b s t : Int) : codeF s t a b = - codeF a b s t := by
  have h1 := sq_nn a; have h2 := sq_nn b; have h3 := sq_nn s; have h4 := sq_nn t
  unfold codeF; exact share_swap _ _ (by omega) (by omega)
theorem code_scale (a b s t k : Int) (hk : 0 < k) : codeF (-k * a) (-k * b) (k * s) (k * t) = codeF a b s t := by
  have h1 := sq_nn a; have h2 := sq_nn b; have h3 := sq_nn s; have h4 := sq_nn t
  unfold codeF
  rw [show -k * a * (-k * a) + -k * b * (-k * b) - (k * s * (k * s) + k * t * (k * t)) = (k * k) * (a * a + b * b - (s * s + t * t)) from by grind,
    show -k * a * (-k * a) + -k * b * (-k * b) + (k * s * (k * s) + k * t * (k * t)) = (k * k) * (a * a + b * b + (s * s + t * t)) from by grind]
  exact share_scale _ _ _ (Int.mul_pos hk hk) (by omega)
theorem code_turn (a b s t : Int) : codeF (-b) a s (-t) = codeF a b s t := by
  unfold codeF
  rw [show -b * -b + a * a = a * a + b * b from by grind, show -t * -t = t * t from by grind]
theorem code_bd (a b s t : Int) : -1024 ≤ codeF a b s t ∧ codeF a b s t ≤ 1024 := by
  have h1 := sq_nn a; have h2 := sq_nn b; have h3 := sq_nn s; have h4 := sq_nn t
  unfold codeF
  generalize hu : a * a + b * b = u at *
  generalize hv : s * s + t * t = v at *
  by_cases g : 0 ≤ u - v
  · have := shareF_bd (u - v) (u + v) g (by omega); omega
  · have e := shareF_neg (u - v) (u + v) (by omega) (by omega)
    have := shareF_bd (-(u - v)) (u + v) (by omega) (by omega); omega
set_option maxRecDepth 100000 in
theorem code_walk (early late factor : Int) (w : World) :
    Calls Try.prog 6 #[.int .i64 early, .int .i64 late, .int .i64 factor] w fun e w' => e = .returned (.bool true) ∧ Below w.heap.size w w' := by
  go_enter Try.func6, Try.ntmps6
  go_wp2_with fail
  refine (known_any _).mono ?_
  rintro e w1 ⟨rfl, hb⟩
  have HB1 := Lib.hid hb
  clear hb
  go_wp2_with fail
  refine (sum_any early _).mono ?_
  rintro e w2 ⟨a, b, ha, hb, rfl, hb2⟩
  have HB2 := Lib.hid (HB1.out.trans (hb2.mono HB1.out.size))
  clear hb2
  go_wp2_with fail
  refine (sum_any late _).mono ?_
  rintro e w3 ⟨c, d, hc, hd, rfl, hb3⟩
  have HB3 := Lib.hid (HB2.out.trans (hb3.mono HB2.out.size))
  clear hb3
  go_wp2_with fail
  refine (kturn_any factor 9 (by omega) (by omega) _).mono ?_
  rintro e w4 ⟨rfl, rfl⟩
  have k0 : 0 ≤ factor % 9 := by omega
  have k1 : factor % 9 < 9 := by omega
  generalize factor % 9 = k at *
  go_wp2_with fail
  generalize hm : 1 + k = m at *
  have m0 : 1 ≤ m := by omega
  have m1 : m ≤ 9 := by omega
  have pa := mulbd (-m) a 9 500 (by omega) (by omega) ha.1 ha.2
  have pb := mulbd (-m) b 9 500 (by omega) (by omega) hb.1 hb.2
  have pc := mulbd m c 9 500 (by omega) m1 hc.1 hc.2
  have pd := mulbd m d 9 500 (by omega) m1 hd.1 hd.2
  have I1 := Lib.hid (bd_in ha hb)
  have I2 := Lib.hid (bd_in hc hd)
  have I0 := Lib.hid (show InB (0, 0) by unfold InB; simp)
  have I3 := Lib.hid (show InB (-m * a, -m * b) by unfold InB; simp only; omega)
  have I4 := Lib.hid (show InB (m * c, m * d) by unfold InB; simp only; omega)
  have I5 := Lib.hid (show InB (-b, a) by have h1 := ha.1; have h2 := ha.2; have h3 := hb.1; have h4 := hb.2; unfold InB; simp only; omega)
  have I6 := Lib.hid (show InB (c, -d) by have h1 := hc.1; have h2 := hc.2; have h3 := hd.1; have h4 := hd.2; unfold InB; simp only; omega)
  have C1 := Lib.hid (code_swap a b c d)
  have C2 := Lib.hid (code_scale a b c d m (by omega))
  have C3 := Lib.hid (code_turn a b c d)
  obtain ⟨l1, l2⟩ := code_bd a b c d
  obtain ⟨a0, a1⟩ := ha
  obtain ⟨b0, b1⟩ := hb
  obtain ⟨c0, c1⟩ := hc
  obtain ⟨d0, d1⟩ := hd
  obtain ⟨pa0, pa1⟩ := pa
  obtain ⟨pb0, pb1⟩ := pb
  obtain ⟨pc0, pc1⟩ := pc
  obtain ⟨pd0, pd1⟩ := pd
  clear hm
  refine (Code_yes a b 0 0 c d _ I1.out I0.out I2.out).mono ?_
  rintro e w5 ⟨rfl, hb⟩
  generalize codeF a b c d = F at *
  have g4_0 := (hb.cell (p := ⟨w3.heap.size, 0, none⟩) (by simp; try omega)).trans (show _ = some (.int .i64 a) by simp [go_sem])
  have g4_1 := (hb.cell (p := ⟨w3.heap.size, 1, none⟩) (by simp; try omega)).trans (show _ = some (.int .i64 b) by simp [go_sem])
  have g4_2 := (hb.cell (p := ⟨w3.heap.size + 1, 0, none⟩) (by simp; try omega)).trans (show _ = some (.int .i64 c) by simp [go_sem])
  have g4_3 := (hb.cell (p := ⟨w3.heap.size + 1, 1, none⟩) (by simp; try omega)).trans (show _ = some (.int .i64 d) by simp [go_sem])
  have zz := hb.size
  simp only [World.size_alloc] at zz
  have z4_0 : w3.heap.size < w5.heap.size := by omega
  have z4_1 : w3.heap.size + 1 < w5.heap.size := by omega
  have HB4 := Lib.hid (((HB3.out.alloc HB3.out.size (.cells #[.int .i64 a, .int .i64 b] 23)).alloc (Nat.le_trans HB3.out.size (by simp)) (.cells #[.int .i64 c, .int .i64 d] 23)).trans (hb.mono (Nat.le_trans HB3.out.size (by simp; omega))))
  clear hb zz
  go_wp2_with fail
  refine (Code_yes c d 0 0 a b _ I2.out I0.out I1.out).mono ?_
  rintro e w6 ⟨rfl, hb⟩
  rw [C1.out]
  have g5_0 := (hb.cell (p := ⟨w3.heap.size, 0, none⟩) z4_0).trans g4_0
  have g5_1 := (hb.cell (p := ⟨w3.heap.size, 1, none⟩) z4_0).trans g4_1
  have g5_2 := (hb.cell (p := ⟨w3.heap.size + 1, 0, none⟩) z4_1).trans g4_2
  have g5_3 := (hb.cell (p := ⟨w3.heap.size + 1, 1, none⟩) z4_1).trans g4_3
  have z5_0 := Nat.lt_of_lt_of_le z4_0 hb.size
  have z5_1 := Nat.lt_of_lt_of_le z4_1 hb.size
  have HB5 := Lib.hid (HB4.out.trans (hb.mono HB4.out.size))
  clear hb g4_0 g4_1 g4_2 g4_3 z4_0 z4_1
  go_wp2_with fail
  refine (Code_yes (-m * a) (-m * b) 0 0 (m * c) (m * d) _ I3.out I0.out I4.out).mono ?_
  rintro e w7 ⟨rfl, hb⟩
  rw [C2.out]
  have g6_0 := (hb.cell (p := ⟨w3.heap.size, 0, none⟩) z5_0).trans g5_0
  have g6_1 := (hb.cell (p := ⟨w3.heap.size, 1, none⟩) z5_0).trans g5_1
  have g6_2 := (hb.cell (p := ⟨w3.heap.size + 1, 0, none⟩) z5_1).trans g5_2
  have g6_3 := (hb.cell (p := ⟨w3.heap.size + 1, 1, none⟩) z5_1).trans g5_3
  have z6_0 := Nat.lt_of_lt_of_le z5_0 hb.size
  have z6_1 := Nat.lt_of_lt_of_le z5_1 hb.size
  have HB6 := Lib.hid (HB5.out.trans (hb.mono HB5.out.size))
  clear hb g5_0 g5_1 g5_2 g5_3 z5_0 z5_1
  go_wp2_with fail
  refine (Code_yes (-b) a a b c (-d) _ I5.out I1.out I6.out).mono ?_
  rintro e w8 ⟨rfl, hb⟩
  rw [C3.out]
  have g7_0 := (hb.cell (p := ⟨w3.heap.size, 0, none⟩) z6_0).trans g6_0
  have g7_1 := (hb.cell (p := ⟨w3.heap.size, 1, none⟩) z6_0).trans g6_1
  have g7_2 := (hb.cell (p := ⟨w3.heap.size + 1, 0, none⟩) z6_1).trans g6_2
  have g7_3 := (hb.cell (p := ⟨w3.heap.size + 1, 1, none⟩) z6_1).trans g6_3
  have z7_0 := Nat.lt_of_lt_of_le z6_0 hb.size
  have z7_1 := Nat.lt_of_lt_of_le z6_1 hb.size
  have HB7 := Lib.hid (HB6.out.trans (hb.mono HB6.out.size))
  clear hb g6_0 g6_1 g6_2 g6_3 z6_0 z6_1
  go_wp2_with fail
  go_ret
  exact ⟨rfl, HB7.out⟩
end Go.Proofs.Ytgehbebjgmeccaa
