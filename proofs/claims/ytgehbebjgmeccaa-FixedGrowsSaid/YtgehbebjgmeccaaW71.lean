/- Contracts of functions of the program and of its reference, out of walks. Their conditions stand ahead of each. -/
import Derived.Test.YtgehbebjgmeccaaW70
set_option linter.unusedVariables false
set_option linter.unusedSimpArgs false
namespace Go.Proofs.Ytgehbebjgmeccaa
open Go.RowKit GW
/-- divided, rounded half away from zero -/
def rdv (p k : Int) : Int := if p < 0 then -(Fx.hup (-p) k) else Fx.hup p k
theorem hup_nn (p k : Int) (h : 0 ≤ p) (hk : 0 < k) : 0 ≤ Fx.hup p k := (hup_le2 p k h (by omega)).1
theorem hup_mono {p q k : Int} (hk : 0 < k) (h : p ≤ q) : Fx.hup p k ≤ Fx.hup q k := by
  unfold Fx.hup
  exact Int.ediv_le_ediv (by omega) (by omega)
theorem rdv_mono {p q k : Int} (hk : 0 < k) (h : p ≤ q) : rdv p k ≤ rdv q k := by
  unfold rdv
  by_cases h1 : p < 0
  · by_cases h2 : q < 0
    · rw [if_pos h1, if_pos h2]
      have := hup_mono hk (show -q ≤ -p by omega)
      omega
    · rw [if_pos h1, if_neg h2]
      have := hup_nn (-p) k (by omega) hk
      have := hup_nn q k (by omega) hk
      omega
  · rw [if_neg h1, if_neg (by omega)]
    exact hup_mono hk h
theorem sgV_rdv (s k : Int) (hk : 0 < k) : Fx.sgV (decide (s < 0)) (Fx.hup (az s) k) = sat (rdv s k) := by
  have h0 : 0 ≤ az s := by unfold az; split <;> omega
  rw [sgV_sat _ _ (hup_nn _ _ h0 hk)]
  unfold rdv az
  by_cases h : s < 0
  · rw [if_pos h, if_pos h, if_pos (by simpa using h)]
  · rw [if_neg h, if_neg h, if_neg (by simpa using h)]
theorem az_mul (a c : Int) (hc : 0 < c) : az a * c = az (a * c) ∧ decide (a < 0) = decide (a * c < 0) := by
  unfold az
  by_cases h : a < 0
  · have : a * c < 0 := Int.mul_neg_of_neg_of_pos h hc
    rw [if_pos h, if_pos this, Int.neg_mul]
    exact ⟨rfl, by simp [h, this]⟩
  · have : ¬ a * c < 0 := by have := Int.mul_nonneg (show 0 ≤ a by omega) (show 0 ≤ c by omega); omega
    rw [if_neg h, if_neg this]
    exact ⟨rfl, by simp; omega⟩
theorem az_self {c : Int} (hc : 0 < c) : az c = c := by unfold az; rw [if_neg (by omega)]
theorem not_neg {c : Int} (hc : 0 < c) : decide (c < 0) = false := by simp; omega
theorem mlV_rdv (a c : Int) (n : Nat) (hc : 0 < c) : mlV a c n = sat (rdv (a * c) (2 ^ n)) := by
  unfold mlV sgN
  rw [az_self hc, (az_mul a c hc).1, not_neg hc, (az_mul a c hc).2, ← sgV_rdv _ _ (Fx.pow_pos' n)]
  simp
theorem dvV_rdv (a c : Int) (n : Nat) (hc : 0 < c) : dvV a c n = sat (rdv (a * 2 ^ n) c) := by
  unfold dvV sgN
  rw [az_self hc, (az_mul a _ (Fx.pow_pos' n)).1, not_neg hc, (az_mul a _ (Fx.pow_pos' n)).2, ← sgV_rdv _ _ hc]
  simp
theorem rtV_rdv (a b c : Int) (hb : 0 < b) (hc : 0 < c) : rtV a b c = sat (rdv (a * b) c) := by
  unfold rtV sgN
  rw [az_self hb, az_self hc, (az_mul a b hb).1, not_neg hb, not_neg hc, (az_mul a b hb).2, ← sgV_rdv _ _ hc]
  simp
theorem shV_mono {a b n : Int} (h : a ≤ b) : shV a n ≤ shV b n := by
  unfold shV
  by_cases hn : 0 ≤ n
  · rw [if_pos hn, if_pos hn]
    exact sat_mono (Int.mul_le_mul_of_nonneg_right h (by have := Fx.pow_pos' n.toNat; omega))
  · rw [if_neg hn, if_neg hn, sgV_rdv _ _ (Fx.pow_pos' _), sgV_rdv _ _ (Fx.pow_pos' _)]
    exact sat_mono (rdv_mono (Fx.pow_pos' _) h)
/-- What FixedGrows asks of the contracts. -/
structure Gr (A B c n : Int) (K : Nat) : Prop where
  m : mlV A c K ≤ mlV B c K
  d : dvV A c K ≤ dvV B c K
  r : rtV A 7 c ≤ rtV B 7 c
  p : sat (A + n) ≤ sat (B + n)
  s : sat (A - n) ≤ sat (B - n)
  t : sat (n - B) ≤ sat (n - A)
  h : shV A n ≤ shV B n
  g : sat (0 - B) ≤ sat (0 - A)
theorem gr_of (A B c n : Int) (K : Nat) (h : A ≤ B) (hc : 0 < c) : Gr A B c n K := by
  refine ⟨?_, ?_, ?_, sat_mono (by omega), sat_mono (by omega), sat_mono (by omega), shV_mono h, sat_mono (by omega)⟩
  · rw [mlV_rdv _ _ _ hc, mlV_rdv _ _ _ hc]
    exact sat_mono (rdv_mono (Fx.pow_pos' _) (Int.mul_le_mul_of_nonneg_right h (by omega)))
  · rw [dvV_rdv _ _ _ hc, dvV_rdv _ _ _ hc]
    exact sat_mono (rdv_mono hc (Int.mul_le_mul_of_nonneg_right h (by have := Fx.pow_pos' K; omega)))
  · rw [rtV_rdv _ _ _ (by omega) hc, rtV_rdv _ _ _ (by omega) hc]
    exact sat_mono (rdv_mono hc (by omega))
set_option maxHeartbeats 4000000 in
set_option maxRecDepth 100000 in
theorem grows_le (a b c n : Int) (ha : Fx.R64 a) (hb : Fx.R64 b) (hc0 : Fx.R64 c) (hn : Fx.R64 n) (hle : ¬ b < a) (w : World) :
    Calls Try.prog 19 #[.int .i64 a, .int .i64 b, .int .i64 c, .int .i64 n] w fun e w' => e = .returned (.bool true) ∧ Below w.heap.size w w' := by
  obtain ⟨K, hK⟩ : ∃ k : Nat, n % 63 = k := ⟨(n % 63).toNat, by omega⟩
  obtain ⟨C, hC⟩ : ∃ v, max c 1 = v := ⟨_, rfl⟩
  have C1 : 1 ≤ C := by omega
  have CR : Fx.R64 C := by unfold Fx.R64 at *; omega
  have g := gr_of a b C n K (by omega) (by omega)
  have m1 := fun w => Mul_yes a C K ha CR (by omega) _ rfl w
  have m2 := fun w => Mul_yes b C K hb CR (by omega) _ rfl w
  have d1 := fun w => Div_yes a C K ha CR (by omega) (by omega) _ rfl w
  have d2 := fun w => Div_yes b C K hb CR (by omega) (by omega) _ rfl w
  have r1 := fun w => Ratio_yes a 7 C ha ⟨by decide, by decide⟩ CR (by omega) _ rfl w
  have r2 := fun w => Ratio_yes b 7 C hb ⟨by decide, by decide⟩ CR (by omega) _ rfl w
  have p1 := fun w => Add_any a n ha hn w
  have p2 := fun w => Add_any b n hb hn w
  have s1 := fun w => Sub_any a n ha hn w
  have s2 := fun w => Sub_any b n hb hn w
  have t1 := fun w => Sub_any n a hn ha w
  have t2 := fun w => Sub_any n b hn hb w
  have h1 := fun w => Shift_any a n ha w
  have h2 := fun w => Shift_any b n hb w
  have n1 := fun w => Neg_any a ha w
  have n2 := fun w => Neg_any b hb w
  obtain ⟨g1, g2, g3, g4, g5, g6, g7, g8⟩ := g
  generalize mlV a C K = V1 at *
  generalize mlV b C K = V2 at *
  generalize dvV a C K = V3 at *
  generalize dvV b C K = V4 at *
  generalize rtV a 7 C = V5 at *
  generalize rtV b 7 C = V6 at *
  generalize sat (a + n) = V7 at *
  generalize sat (b + n) = V8 at *
  generalize sat (a - n) = V9 at *
  generalize sat (b - n) = V10 at *
  generalize sat (n - a) = V11 at *
  generalize sat (n - b) = V12 at *
  generalize shV a n = V13 at *
  generalize shV b n = V14 at *
  generalize sat (0 - a) = V15 at *
  generalize sat (0 - b) = V16 at *
  have M1 := Lib.hid m1
  have M2 := Lib.hid m2
  have D1 := Lib.hid d1
  have D2 := Lib.hid d2
  have R1 := Lib.hid r1
  have R2 := Lib.hid r2
  have P1 := Lib.hid p1
  have P2 := Lib.hid p2
  have S1 := Lib.hid s1
  have S2 := Lib.hid s2
  have T1 := Lib.hid t1
  have T2 := Lib.hid t2
  have H1 := Lib.hid h1
  have H2 := Lib.hid h2
  have N1 := Lib.hid n1
  have N2 := Lib.hid n2
  have HK := Lib.hid hK
  clear m1 m2 d1 d2 r1 r2 p1 p2 s1 s2 t1 t2 h1 h2 n1 n2 hK ha hb hc0 hn CR
  refine calls_g fun g => ?_
  go_enter Try.func19, Try.ntmps19
  go_wp2_with (with_reducible refine G.any_mark _ ?_; (try generalize Array.size (World.heap (G.w _)) = bk); (try dsimp only [List.set_cons_zero, List.set_cons_succ]); (try clear g); intro g)
  refine (pick_any n 63 (by omega) (by omega) _).mono ?_
  rw [HK.out]
  rintro e w1 ⟨rfl, rfl⟩
  go_wp2_with (with_reducible refine G.any_mark _ ?_; (try generalize Array.size (World.heap (G.w _)) = bk); (try dsimp only [List.set_cons_zero, List.set_cons_succ]); (try clear g); intro g)
  refine (M1.out _).mono ?_; rintro e w1 ⟨rfl, hb⟩; obtain ⟨g1, rfl⟩ := G.call_ex _ hb; clear hb; (try clear g); revert g1; intro g
  go_wp2_with (with_reducible refine G.any_mark _ ?_; (try generalize Array.size (World.heap (G.w _)) = bk); (try dsimp only [List.set_cons_zero, List.set_cons_succ]); (try clear g); intro g)
  refine (M2.out _).mono ?_; rintro e w1 ⟨rfl, hb⟩; obtain ⟨g1, rfl⟩ := G.call_ex _ hb; clear hb; (try clear g); revert g1; intro g
  go_wp2_with (with_reducible refine G.any_mark _ ?_; (try generalize Array.size (World.heap (G.w _)) = bk); (try dsimp only [List.set_cons_zero, List.set_cons_succ]); (try clear g); intro g)
  refine (D1.out _).mono ?_; rintro e w1 ⟨rfl, hb⟩; obtain ⟨g1, rfl⟩ := G.call_ex _ hb; clear hb; (try clear g); revert g1; intro g
  go_wp2_with (with_reducible refine G.any_mark _ ?_; (try generalize Array.size (World.heap (G.w _)) = bk); (try dsimp only [List.set_cons_zero, List.set_cons_succ]); (try clear g); intro g)
  refine (D2.out _).mono ?_; rintro e w1 ⟨rfl, hb⟩; obtain ⟨g1, rfl⟩ := G.call_ex _ hb; clear hb; (try clear g); revert g1; intro g
  go_wp2_with (with_reducible refine G.any_mark _ ?_; (try generalize Array.size (World.heap (G.w _)) = bk); (try dsimp only [List.set_cons_zero, List.set_cons_succ]); (try clear g); intro g)
  refine (R1.out _).mono ?_; rintro e w1 ⟨rfl, hb⟩; obtain ⟨g1, rfl⟩ := G.call_ex _ hb; clear hb; (try clear g); revert g1; intro g
  go_wp2_with (with_reducible refine G.any_mark _ ?_; (try generalize Array.size (World.heap (G.w _)) = bk); (try dsimp only [List.set_cons_zero, List.set_cons_succ]); (try clear g); intro g)
  refine (R2.out _).mono ?_; rintro e w1 ⟨rfl, hb⟩; obtain ⟨g1, rfl⟩ := G.call_ex _ hb; clear hb; (try clear g); revert g1; intro g
  go_wp2_with (with_reducible refine G.any_mark _ ?_; (try generalize Array.size (World.heap (G.w _)) = bk); (try dsimp only [List.set_cons_zero, List.set_cons_succ]); (try clear g); intro g)
  refine (lives1_any _).mono ?_; rintro e w1 ⟨rfl, hb⟩; obtain ⟨g1, rfl⟩ := G.call_ex _ hb; clear hb; (try clear g); revert g1; intro g
  go_wp2_with (with_reducible refine G.any_mark _ ?_; (try generalize Array.size (World.heap (G.w _)) = bk); (try dsimp only [List.set_cons_zero, List.set_cons_succ]); (try clear g); intro g)
  refine (P1.out _).mono ?_; rintro e w1 ⟨rfl, rfl⟩
  go_wp2_with (with_reducible refine G.any_mark _ ?_; (try generalize Array.size (World.heap (G.w _)) = bk); (try dsimp only [List.set_cons_zero, List.set_cons_succ]); (try clear g); intro g)
  refine (P2.out _).mono ?_; rintro e w1 ⟨rfl, rfl⟩
  go_wp2_with (with_reducible refine G.any_mark _ ?_; (try generalize Array.size (World.heap (G.w _)) = bk); (try dsimp only [List.set_cons_zero, List.set_cons_succ]); (try clear g); intro g)
  refine (S1.out _).mono ?_; rintro e w1 ⟨rfl, rfl⟩
  go_wp2_with (with_reducible refine G.any_mark _ ?_; (try generalize Array.size (World.heap (G.w _)) = bk); (try dsimp only [List.set_cons_zero, List.set_cons_succ]); (try clear g); intro g)
  refine (S2.out _).mono ?_; rintro e w1 ⟨rfl, rfl⟩
  go_wp2_with (with_reducible refine G.any_mark _ ?_; (try generalize Array.size (World.heap (G.w _)) = bk); (try dsimp only [List.set_cons_zero, List.set_cons_succ]); (try clear g); intro g)
  refine (T1.out _).mono ?_; rintro e w1 ⟨rfl, rfl⟩
  go_wp2_with (with_reducible refine G.any_mark _ ?_; (try generalize Array.size (World.heap (G.w _)) = bk); (try dsimp only [List.set_cons_zero, List.set_cons_succ]); (try clear g); intro g)
  refine (T2.out _).mono ?_; rintro e w1 ⟨rfl, rfl⟩
  go_wp2_with (with_reducible refine G.any_mark _ ?_; (try generalize Array.size (World.heap (G.w _)) = bk); (try dsimp only [List.set_cons_zero, List.set_cons_succ]); (try clear g); intro g)
  refine (H1.out _).mono ?_; rintro e w1 ⟨rfl, hb⟩; obtain ⟨g1, rfl⟩ := G.call_ex _ hb; clear hb; (try clear g); revert g1; intro g
  go_wp2_with (with_reducible refine G.any_mark _ ?_; (try generalize Array.size (World.heap (G.w _)) = bk); (try dsimp only [List.set_cons_zero, List.set_cons_succ]); (try clear g); intro g)
  refine (H2.out _).mono ?_; rintro e w1 ⟨rfl, hb⟩; obtain ⟨g1, rfl⟩ := G.call_ex _ hb; clear hb; (try clear g); revert g1; intro g
  go_wp2_with (with_reducible refine G.any_mark _ ?_; (try generalize Array.size (World.heap (G.w _)) = bk); (try dsimp only [List.set_cons_zero, List.set_cons_succ]); (try clear g); intro g)
  refine (N1.out _).mono ?_; rintro e w1 ⟨rfl, rfl⟩
  go_wp2_with (with_reducible refine G.any_mark _ ?_; (try generalize Array.size (World.heap (G.w _)) = bk); (try dsimp only [List.set_cons_zero, List.set_cons_succ]); (try clear g); intro g)
  refine (N2.out _).mono ?_; rintro e w1 ⟨rfl, rfl⟩
  go_wp2_with (with_reducible refine G.any_mark _ ?_; (try generalize Array.size (World.heap (G.w _)) = bk); (try dsimp only [List.set_cons_zero, List.set_cons_succ]); (try clear g); intro g)
  go_ret
  exact ⟨rfl, G.below _⟩
set_option maxHeartbeats 4000000 in
set_option maxRecDepth 100000 in
theorem grows_gt (a b c n : Int) (ha : Fx.R64 a) (hb : Fx.R64 b) (hc0 : Fx.R64 c) (hn : Fx.R64 n) (hlt : b < a) (w : World) :
    Calls Try.prog 19 #[.int .i64 a, .int .i64 b, .int .i64 c, .int .i64 n] w fun e w' => e = .returned (.bool true) ∧ Below w.heap.size w w' := by
  obtain ⟨K, hK⟩ : ∃ k : Nat, n % 63 = k := ⟨(n % 63).toNat, by omega⟩
  obtain ⟨C, hC⟩ : ∃ v, max c 1 = v := ⟨_, rfl⟩
  have C1 : 1 ≤ C := by omega
  have CR : Fx.R64 C := by unfold Fx.R64 at *; omega
  have g := gr_of b a C n K (by omega) (by omega)
  have m1 := fun w => Mul_yes b C K hb CR (by omega) _ rfl w
  have m2 := fun w => Mul_yes a C K ha CR (by omega) _ rfl w
  have d1 := fun w => Div_yes b C K hb CR (by omega) (by omega) _ rfl w
  have d2 := fun w => Div_yes a C K ha CR (by omega) (by omega) _ rfl w
  have r1 := fun w => Ratio_yes b 7 C hb ⟨by decide, by decide⟩ CR (by omega) _ rfl w
  have r2 := fun w => Ratio_yes a 7 C ha ⟨by decide, by decide⟩ CR (by omega) _ rfl w
  have p1 := fun w => Add_any b n hb hn w
  have p2 := fun w => Add_any a n ha hn w
  have s1 := fun w => Sub_any b n hb hn w
  have s2 := fun w => Sub_any a n ha hn w
  have t1 := fun w => Sub_any n b hn hb w
  have t2 := fun w => Sub_any n a hn ha w
  have h1 := fun w => Shift_any b n hb w
  have h2 := fun w => Shift_any a n ha w
  have n1 := fun w => Neg_any b hb w
  have n2 := fun w => Neg_any a ha w
  obtain ⟨g1, g2, g3, g4, g5, g6, g7, g8⟩ := g
  generalize mlV b C K = V1 at *
  generalize mlV a C K = V2 at *
  generalize dvV b C K = V3 at *
  generalize dvV a C K = V4 at *
  generalize rtV b 7 C = V5 at *
  generalize rtV a 7 C = V6 at *
  generalize sat (b + n) = V7 at *
  generalize sat (a + n) = V8 at *
  generalize sat (b - n) = V9 at *
  generalize sat (a - n) = V10 at *
  generalize sat (n - b) = V11 at *
  generalize sat (n - a) = V12 at *
  generalize shV b n = V13 at *
  generalize shV a n = V14 at *
  generalize sat (0 - b) = V15 at *
  generalize sat (0 - a) = V16 at *
  have M1 := Lib.hid m1
  have M2 := Lib.hid m2
  have D1 := Lib.hid d1
  have D2 := Lib.hid d2
  have R1 := Lib.hid r1
  have R2 := Lib.hid r2
  have P1 := Lib.hid p1
  have P2 := Lib.hid p2
  have S1 := Lib.hid s1
  have S2 := Lib.hid s2
  have T1 := Lib.hid t1
  have T2 := Lib.hid t2
  have H1 := Lib.hid h1
  have H2 := Lib.hid h2
  have N1 := Lib.hid n1
  have N2 := Lib.hid n2
  have HK := Lib.hid hK
  clear m1 m2 d1 d2 r1 r2 p1 p2 s1 s2 t1 t2 h1 h2 n1 n2 hK ha hb hc0 hn CR
  refine calls_g fun g => ?_
  go_enter Try.func19, Try.ntmps19
  go_wp2_with (with_reducible refine G.any_mark _ ?_; (try generalize Array.size (World.heap (G.w _)) = bk); (try dsimp only [List.set_cons_zero, List.set_cons_succ]); (try clear g); intro g)
  refine (pick_any n 63 (by omega) (by omega) _).mono ?_
  rw [HK.out]
  rintro e w1 ⟨rfl, rfl⟩
  go_wp2_with (with_reducible refine G.any_mark _ ?_; (try generalize Array.size (World.heap (G.w _)) = bk); (try dsimp only [List.set_cons_zero, List.set_cons_succ]); (try clear g); intro g)
  refine (M1.out _).mono ?_; rintro e w1 ⟨rfl, hb⟩; obtain ⟨g1, rfl⟩ := G.call_ex _ hb; clear hb; (try clear g); revert g1; intro g
  go_wp2_with (with_reducible refine G.any_mark _ ?_; (try generalize Array.size (World.heap (G.w _)) = bk); (try dsimp only [List.set_cons_zero, List.set_cons_succ]); (try clear g); intro g)
  refine (M2.out _).mono ?_; rintro e w1 ⟨rfl, hb⟩; obtain ⟨g1, rfl⟩ := G.call_ex _ hb; clear hb; (try clear g); revert g1; intro g
  go_wp2_with (with_reducible refine G.any_mark _ ?_; (try generalize Array.size (World.heap (G.w _)) = bk); (try dsimp only [List.set_cons_zero, List.set_cons_succ]); (try clear g); intro g)
  refine (D1.out _).mono ?_; rintro e w1 ⟨rfl, hb⟩; obtain ⟨g1, rfl⟩ := G.call_ex _ hb; clear hb; (try clear g); revert g1; intro g
  go_wp2_with (with_reducible refine G.any_mark _ ?_; (try generalize Array.size (World.heap (G.w _)) = bk); (try dsimp only [List.set_cons_zero, List.set_cons_succ]); (try clear g); intro g)
  refine (D2.out _).mono ?_; rintro e w1 ⟨rfl, hb⟩; obtain ⟨g1, rfl⟩ := G.call_ex _ hb; clear hb; (try clear g); revert g1; intro g
  go_wp2_with (with_reducible refine G.any_mark _ ?_; (try generalize Array.size (World.heap (G.w _)) = bk); (try dsimp only [List.set_cons_zero, List.set_cons_succ]); (try clear g); intro g)
  refine (R1.out _).mono ?_; rintro e w1 ⟨rfl, hb⟩; obtain ⟨g1, rfl⟩ := G.call_ex _ hb; clear hb; (try clear g); revert g1; intro g
  go_wp2_with (with_reducible refine G.any_mark _ ?_; (try generalize Array.size (World.heap (G.w _)) = bk); (try dsimp only [List.set_cons_zero, List.set_cons_succ]); (try clear g); intro g)
  refine (R2.out _).mono ?_; rintro e w1 ⟨rfl, hb⟩; obtain ⟨g1, rfl⟩ := G.call_ex _ hb; clear hb; (try clear g); revert g1; intro g
  go_wp2_with (with_reducible refine G.any_mark _ ?_; (try generalize Array.size (World.heap (G.w _)) = bk); (try dsimp only [List.set_cons_zero, List.set_cons_succ]); (try clear g); intro g)
  refine (lives1_any _).mono ?_; rintro e w1 ⟨rfl, hb⟩; obtain ⟨g1, rfl⟩ := G.call_ex _ hb; clear hb; (try clear g); revert g1; intro g
  go_wp2_with (with_reducible refine G.any_mark _ ?_; (try generalize Array.size (World.heap (G.w _)) = bk); (try dsimp only [List.set_cons_zero, List.set_cons_succ]); (try clear g); intro g)
  refine (P1.out _).mono ?_; rintro e w1 ⟨rfl, rfl⟩
  go_wp2_with (with_reducible refine G.any_mark _ ?_; (try generalize Array.size (World.heap (G.w _)) = bk); (try dsimp only [List.set_cons_zero, List.set_cons_succ]); (try clear g); intro g)
  refine (P2.out _).mono ?_; rintro e w1 ⟨rfl, rfl⟩
  go_wp2_with (with_reducible refine G.any_mark _ ?_; (try generalize Array.size (World.heap (G.w _)) = bk); (try dsimp only [List.set_cons_zero, List.set_cons_succ]); (try clear g); intro g)
  refine (S1.out _).mono ?_; rintro e w1 ⟨rfl, rfl⟩
  go_wp2_with (with_reducible refine G.any_mark _ ?_; (try generalize Array.size (World.heap (G.w _)) = bk); (try dsimp only [List.set_cons_zero, List.set_cons_succ]); (try clear g); intro g)
  refine (S2.out _).mono ?_; rintro e w1 ⟨rfl, rfl⟩
  go_wp2_with (with_reducible refine G.any_mark _ ?_; (try generalize Array.size (World.heap (G.w _)) = bk); (try dsimp only [List.set_cons_zero, List.set_cons_succ]); (try clear g); intro g)
  refine (T1.out _).mono ?_; rintro e w1 ⟨rfl, rfl⟩
  go_wp2_with (with_reducible refine G.any_mark _ ?_; (try generalize Array.size (World.heap (G.w _)) = bk); (try dsimp only [List.set_cons_zero, List.set_cons_succ]); (try clear g); intro g)
  refine (T2.out _).mono ?_; rintro e w1 ⟨rfl, rfl⟩
  go_wp2_with (with_reducible refine G.any_mark _ ?_; (try generalize Array.size (World.heap (G.w _)) = bk); (try dsimp only [List.set_cons_zero, List.set_cons_succ]); (try clear g); intro g)
  refine (H1.out _).mono ?_; rintro e w1 ⟨rfl, hb⟩; obtain ⟨g1, rfl⟩ := G.call_ex _ hb; clear hb; (try clear g); revert g1; intro g
  go_wp2_with (with_reducible refine G.any_mark _ ?_; (try generalize Array.size (World.heap (G.w _)) = bk); (try dsimp only [List.set_cons_zero, List.set_cons_succ]); (try clear g); intro g)
  refine (H2.out _).mono ?_; rintro e w1 ⟨rfl, hb⟩; obtain ⟨g1, rfl⟩ := G.call_ex _ hb; clear hb; (try clear g); revert g1; intro g
  go_wp2_with (with_reducible refine G.any_mark _ ?_; (try generalize Array.size (World.heap (G.w _)) = bk); (try dsimp only [List.set_cons_zero, List.set_cons_succ]); (try clear g); intro g)
  refine (N1.out _).mono ?_; rintro e w1 ⟨rfl, rfl⟩
  go_wp2_with (with_reducible refine G.any_mark _ ?_; (try generalize Array.size (World.heap (G.w _)) = bk); (try dsimp only [List.set_cons_zero, List.set_cons_succ]); (try clear g); intro g)
  refine (N2.out _).mono ?_; rintro e w1 ⟨rfl, rfl⟩
  go_wp2_with (with_reducible refine G.any_mark _ ?_; (try generalize Array.size (World.heap (G.w _)) = bk); (try dsimp only [List.set_cons_zero, List.set_cons_succ]); (try clear g); intro g)
  go_ret
  exact ⟨rfl, G.below _⟩
theorem fgrows_walk (a b c n : Int) (ha : Fx.R64 a) (hb : Fx.R64 b) (hc0 : Fx.R64 c) (hn : Fx.R64 n) (w : World) :
    Calls Try.prog 19 #[.int .i64 a, .int .i64 b, .int .i64 c, .int .i64 n] w fun e w' => e = .returned (.bool true) ∧ Below w.heap.size w w' := by
  by_cases h : b < a
  · exact grows_gt a b c n ha hb hc0 hn h w
  · exact grows_le a b c n ha hb hc0 hn h w
end Go.Proofs.Ytgehbebjgmeccaa
