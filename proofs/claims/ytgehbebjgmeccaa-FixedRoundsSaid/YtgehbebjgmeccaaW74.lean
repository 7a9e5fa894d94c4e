/- Contracts of functions of the program and of its reference, out of walks. Their conditions stand ahead of each. -/
import Derived.Test.YtgehbebjgmeccaaW73
set_option linter.unusedVariables false
set_option linter.unusedSimpArgs false
namespace Go.Proofs.Ytgehbebjgmeccaa
open Go.RowKit GW
theorem az_mul (a b : Int) : az (a * b) = az a * az b := by
  unfold az
  by_cases h : a < 0 <;> by_cases k : b < 0
  · have := Int.mul_pos_of_neg_of_neg h k
    rw [if_pos h, if_pos k, if_neg (by omega), Int.neg_mul_neg]
  · rw [if_pos h, if_neg k]
    have := Int.mul_nonneg (show 0 ≤ -a by omega) (show 0 ≤ b by omega)
    rw [Int.neg_mul] at *
    split <;> omega
  · rw [if_neg h, if_pos k]
    have := Int.mul_nonneg (show 0 ≤ a by omega) (show 0 ≤ -b by omega)
    rw [Int.mul_neg] at *
    split <;> omega
  · have := Int.mul_nonneg (show 0 ≤ a by omega) (show 0 ≤ b by omega)
    rw [if_neg h, if_neg k, if_neg (by omega)]
theorem sgN_mul (a b : Int) : a * b = 0 ∨ sgN a b = decide (a * b < 0) := by
  unfold sgN
  by_cases z : a = 0
  · subst z; left; simp
  · by_cases z' : b = 0
    · subst z'; left; simp
    · right
      by_cases h : a < 0 <;> by_cases k : b < 0
      · have := Int.mul_pos_of_neg_of_neg h k
        simp [h, k]; omega
      · have := Int.mul_neg_of_neg_of_pos h (show 0 < b by omega)
        simp [h, k, this]
      · have := Int.mul_neg_of_pos_of_neg (show 0 < a by omega) k
        simp [h, k, this]
      · have := Int.mul_pos (show 0 < a by omega) (show 0 < b by omega)
        simp [h, k]; omega
theorem az_neg (a : Int) : az (-a) = az a := by unfold az; split <;> split <;> omega
theorem sgV_neg (s s' : Bool) (M : Int) (h0 : 0 ≤ M) (h1 : M ≤ 9223372036854775807) (h : M = 0 ∨ s' = !s) : Fx.sgV s' M = - Fx.sgV s M := by
  unfold Fx.sgV
  rcases h with h | h
  · subst h; cases s <;> cases s' <;> simp
  · subst h; cases s <;> simp <;> split <;> omega
theorem sgN_neg (a b : Int) : a = 0 ∨ sgN (-a) b = !sgN a b := by
  unfold sgN
  by_cases h : a = 0
  · exact .inl h
  · right
    by_cases k : a < 0
    · rw [show decide (a < 0) = true by simpa using k, show decide (-a < 0) = false by simp; omega]; cases decide (b < 0) <;> rfl
    · rw [show decide (a < 0) = false by simp; omega, show decide (-a < 0) = true by simp; omega]; cases decide (b < 0) <;> rfl
theorem sgN_comm (a b : Int) : sgN a b = sgN b a := by unfold sgN; cases decide (a < 0) <;> cases decide (b < 0) <;> rfl
theorem mul_bd (a b X Y : Int) (h1 : 0 ≤ a) (h2 : a ≤ X) (h3 : 0 ≤ b) (h4 : b ≤ Y) : 0 ≤ a * b ∧ a * b ≤ X * Y :=
  ⟨Int.mul_nonneg h1 h3, Int.mul_le_mul h2 h4 h3 (by omega)⟩
theorem pow20 {n : Nat} (h : n ≤ 20) : 1 ≤ (2 : Int) ^ n ∧ (2 : Int) ^ n ≤ 1048576 := by
  have b := Fx.pow_pos' n
  have h2 : (2 : Nat) ^ n ≤ 1048576 := by
    have := Nat.pow_le_pow_right (n := 2) (by omega) h
    rwa [show (2 : Nat) ^ 20 = 1048576 by decide] at this
  have h3 := Int.ofNat_le.2 h2
  rw [Int.natCast_pow] at h3
  exact ⟨b, h3⟩
theorem az6 {a : Int} (h : -1000000 ≤ a ∧ a ≤ 1000000) : 0 ≤ az a ∧ az a ≤ 1000000 := by unfold az; split <;> omega
theorem az_nn {a : Int} (h : 0 ≤ a) : az a = a := by unfold az; split <;> omega
theorem az_z {a : Int} (h : a = 0) : az a = 0 := by unfold az; split <;> omega
theorem r64 {a : Int} (h : -1000000 ≤ a ∧ a ≤ 1000000) : Fx.R64 a := ⟨by omega, by omega⟩
/-- what the law needs of Mul, Div, Ratio -/
theorem rounds_plain (a b c : Int) (n : Nat) (ha : -1000000 ≤ a ∧ a ≤ 1000000) (hb : -1000000 ≤ b ∧ b ≤ 1000000) (hc : -1000000 ≤ c ∧ c ≤ 1000000) (c0 : c ≠ 0) (hn : n ≤ 20) :
    ∃ X Y Z XN YN ZN : Int, -X = XN ∧ -Y = YN ∧ -Z = ZN ∧ Fx.R64 XN ∧ Fx.R64 YN ∧ Fx.R64 ZN ∧
      (∀ w, Calls Try.prog 67 #[.int .i64 a, .int .i64 b, .int .i64 n] w fun e w' => e = .returned (.tuple #[.int .i64 X, .int .i64 0]) ∧ Below w.heap.size w w') ∧
      (∀ w, Calls Try.prog 69 #[.int .i64 a, .int .i64 c, .int .i64 n] w fun e w' => e = .returned (.tuple #[.int .i64 Y, .int .i64 0]) ∧ Below w.heap.size w w') ∧
      (∀ w, Calls Try.prog 71 #[.int .i64 a, .int .i64 b, .int .i64 c] w fun e w' => e = .returned (.tuple #[.int .i64 Z, .int .i64 0]) ∧ Below w.heap.size w w') ∧
      (∀ w, Calls Try.prog 67 #[.int .i64 (-a), .int .i64 b, .int .i64 n] w fun e w' => e = .returned (.tuple #[.int .i64 XN, .int .i64 0]) ∧ Below w.heap.size w w') ∧
      (∀ w, Calls Try.prog 69 #[.int .i64 a, .int .i64 (-c), .int .i64 n] w fun e w' => e = .returned (.tuple #[.int .i64 YN, .int .i64 0]) ∧ Below w.heap.size w w') ∧
      (∀ w, Calls Try.prog 71 #[.int .i64 a, .int .i64 (-b), .int .i64 c] w fun e w' => e = .returned (.tuple #[.int .i64 ZN, .int .i64 0]) ∧ Below w.heap.size w w') ∧
      (∀ w, Calls Try.prog 75 #[.int .i64 X, .int .i64 (a * b), .int .i64 (2 ^ n)] w fun e w' => e = .returned (.bool true) ∧ w = w') ∧
      (∀ w, Calls Try.prog 75 #[.int .i64 Y, .int .i64 (a * 2 ^ n), .int .i64 c] w fun e w' => e = .returned (.bool true) ∧ w = w') ∧
      (∀ w, Calls Try.prog 75 #[.int .i64 Z, .int .i64 (a * b), .int .i64 c] w fun e w' => e = .returned (.bool true) ∧ w = w') := by
  have qa := az6 ha
  have qb := az6 hb
  have qc := az6 hc
  have qc1 := az_pos c0
  have qn := pow20 hn
  have pab := mul_bd (az a) (az b) _ _ qa.1 qa.2 qb.1 qb.2
  have pan := mul_bd (az a) (2 ^ n) _ _ qa.1 qa.2 (by omega) qn.2
  have u1 := hup_le2 (az a * az b) (2 ^ n) pab.1 qn.1
  have u2 := hup_le2 (az a * 2 ^ n) (az c) pan.1 qc1
  have u3 := hup_le2 (az a * az b) (az c) pab.1 qc1
  have an : az (2 ^ n) = 2 ^ n := az_nn (by omega)
  have dn : decide ((2 : Int) ^ n < 0) = false := by simp; omega
  have neg_r : ∀ s M, 0 ≤ M → M ≤ 1048576000001 → Fx.R64 (-Fx.sgV s M) := by
    intro s M h1 h2
    unfold Fx.sgV Fx.R64
    cases s <;> simp <;> split <;> omega
  have zz : ∀ K, 1 ≤ K → ∀ P, P = 0 → Fx.hup P K = 0 := by intro K h P e; subst e; exact hup_0 K h
  refine ⟨mlV a b n, dvV a c n, rtV a b c, -mlV a b n, -dvV a c n, -rtV a b c, rfl, rfl, rfl, neg_r _ _ u1.1 (by omega), neg_r _ _ u2.1 (by omega), neg_r _ _ u3.1 (by omega),
    fun w => Mul_yes a b n (r64 ha) (r64 hb) (by omega) _ rfl w, fun w => Div_yes a c n (r64 ha) (r64 hc) c0 (by omega) _ rfl w, fun w => Ratio_yes a b c (r64 ha) (r64 hb) (r64 hc) c0 _ rfl w,
    fun w => Mul_yes (-a) b n (r64 (by omega)) (r64 hb) (by omega) _ ?_ w, fun w => Div_yes a (-c) n (r64 ha) (r64 (by omega)) (by omega) (by omega) _ ?_ w, fun w => Ratio_yes a (-b) c (r64 ha) (r64 (by omega)) (r64 hc) c0 _ ?_ w, ?_, ?_, ?_⟩
  · unfold mlV; rw [az_neg]
    refine sgV_neg _ _ _ u1.1 (by omega) ?_
    rcases sgN_neg a b with h | h
    · left; apply zz _ qn.1; rw [az_z h, Int.zero_mul]
    · exact .inr h
  · unfold dvV; rw [az_neg]
    refine sgV_neg _ _ _ u2.1 (by omega) ?_
    rcases sgN_neg c a with h | h
    · exact absurd h c0
    · right; rw [sgN_comm a, h, sgN_comm a]
  · unfold rtV; rw [az_neg]
    refine sgV_neg _ _ _ u3.1 (by omega) ?_
    rcases sgN_neg b a with h | h
    · left; apply zz _ qc1; rw [az_z h, Int.mul_zero]
    · right; rw [sgN_comm a, h, sgN_comm a]; cases sgN b a <;> cases decide (c < 0) <;> rfl
  · intro w
    refine near_any (sgN a b) _ _ _ (by omega) (by rw [an]; omega) (by rw [az_mul]; omega) ?_ (by rw [az_mul, an]; rfl) w
    rcases sgN_mul a b with h | h
    · exact .inl h
    · right; rw [h, dn]; cases decide (a * b < 0) <;> rfl
  · intro w
    refine near_any (sgN a c) _ _ _ c0 (by omega) (by rw [az_mul, an]; omega) ?_ (by rw [az_mul, an]; rfl) w
    rcases sgN_mul a (2 ^ n) with h | h
    · exact .inl h
    · right; rw [← h]; unfold sgN; rw [dn]; cases decide (a < 0) <;> rfl
  · intro w
    refine near_any (sgN a b != decide (c < 0)) _ _ _ c0 (by omega) (by rw [az_mul]; omega) ?_ (by rw [az_mul]; rfl) w
    rcases sgN_mul a b with h | h
    · exact .inl h
    · right; rw [h]
theorem mul_r (a b : Int) (ha : -1000000 ≤ a ∧ a ≤ 1000000) (hb : -1048576 ≤ b ∧ b ≤ 1048576) : Fx.R64 (a * b) := by
  have q1 : 0 ≤ az a ∧ az a ≤ 1000000 := az6 ha
  have q2 : 0 ≤ az b ∧ az b ≤ 1048576 := by unfold az; split <;> omega
  have := mul_bd (az a) (az b) _ _ q1.1 q1.2 q2.1 q2.2
  rw [← az_mul] at this
  unfold Fx.R64
  unfold az at this
  split at this <;> omega
set_option maxHeartbeats 4000000 in
set_option maxRecDepth 100000 in
theorem rounds_0 (a0 b0 c0 n0 a b c0' c : Int) (m : Nat) (ha : -1000000 ≤ a ∧ a ≤ 1000000) (hb : -1000000 ≤ b ∧ b ≤ 1000000) (hc : -1000000 ≤ c ∧ c ≤ 1000000) (hc0 : c ≠ 0) (hm : m ≤ 20) (hcc : c0' = 0 ∧ c = 1)
    (ca : ∀ w, Calls Try.prog 74 #[.int .i64 a0, .int .i64 1000000] w fun e w' => e = .returned (.int .i64 a) ∧ w = w')
    (cb : ∀ w, Calls Try.prog 74 #[.int .i64 b0, .int .i64 1000000] w fun e w' => e = .returned (.int .i64 b) ∧ w = w')
    (cc : ∀ w, Calls Try.prog 74 #[.int .i64 c0, .int .i64 1000000] w fun e w' => e = .returned (.int .i64 c0') ∧ w = w')
    (cn : ∀ w, Calls Try.prog 49 #[.int .i64 n0, .int .i64 21] w fun e w' => e = .returned (.int .i64 m) ∧ w = w') (w : World) :
    Calls Try.prog 16 #[.int .i64 a0, .int .i64 b0, .int .i64 c0, .int .i64 n0] w fun e w' => e = .returned (.bool true) ∧ Below w.heap.size w w' := by
  obtain ⟨X, Y, Z, XN, YN, ZN, x1, y1, z1, x2, y2, z2, l1, l2, l3, l4, l5, l6, n1, n2, n3⟩ := rounds_plain a b c m ha hb hc hc0 hm
  have p := pow20 hm
  have r1 := mul_r a b ha (by omega)
  have r2 := mul_r a (2 ^ m) ha (by omega)
  have w1 : IntKind.i64.wrap (-X) = XN := by rw [x1]; exact IntWalk.i64_in _ x2
  have w2 : IntKind.i64.wrap (-Y) = YN := by rw [y1]; exact IntWalk.i64_in _ y2
  have w3 : IntKind.i64.wrap (-Z) = ZN := by rw [z1]; exact IntWalk.i64_in _ z2
  obtain ⟨NA, e1⟩ : ∃ v, -a = v := ⟨_, rfl⟩
  obtain ⟨NB, e2⟩ : ∃ v, -b = v := ⟨_, rfl⟩
  obtain ⟨NC, e3⟩ : ∃ v, -c = v := ⟨_, rfl⟩
  have w4 : IntKind.i64.wrap (-a) = NA := by rw [e1]; exact IntWalk.i64_in _ (by omega)
  have w5 : IntKind.i64.wrap (-b) = NB := by rw [e2]; exact IntWalk.i64_in _ (by omega)
  have w6 : IntKind.i64.wrap (-c) = NC := by rw [e3]; exact IntWalk.i64_in _ (by omega)
  rw [e1] at l4
  rw [e3] at l5
  rw [e2] at l6
  obtain ⟨AB, f1⟩ : ∃ v, a * b = v := ⟨_, rfl⟩
  obtain ⟨AE, f2⟩ : ∃ v, a * 2 ^ m = v := ⟨_, rfl⟩
  obtain ⟨E, f3⟩ : ∃ v, (2 : Int) ^ m = v := ⟨_, rfl⟩
  have w7 : IntKind.i64.wrap (a * b) = AB := by rw [← f1]; exact IntWalk.i64_in _ r1
  have w8 : IntKind.i64.wrap (a * 2 ^ m) = AE := by rw [← f2]; exact IntWalk.i64_in _ r2
  have w9 : IntKind.i64.wrap (2 ^ m) = E := by rw [← f3]; exact IntWalk.i64_in _ (by omega)
  have n1' : ∀ w, Calls Try.prog 75 #[.int .i64 X, .int .i64 AB, .int .i64 E] w fun e w' => e = .returned (.bool true) ∧ w = w' := by rw [← f1, ← f3]; exact n1
  have n2' : ∀ w, Calls Try.prog 75 #[.int .i64 Y, .int .i64 AE, .int .i64 c] w fun e w' => e = .returned (.bool true) ∧ w = w' := by rw [← f2]; exact n2
  have n3' : ∀ w, Calls Try.prog 75 #[.int .i64 Z, .int .i64 AB, .int .i64 c] w fun e w' => e = .returned (.bool true) ∧ w = w' := by rw [← f1]; exact n3
  have L1 := Lib.hid l1
  have L2 := Lib.hid l2
  have L3 := Lib.hid l3
  have L4 := Lib.hid l4
  have L5 := Lib.hid l5
  have L6 := Lib.hid l6
  have N1' := Lib.hid n1'
  have N2' := Lib.hid n2'
  have N3' := Lib.hid n3'
  have CA := Lib.hid ca
  have CB := Lib.hid cb
  have CC := Lib.hid cc
  have CN := Lib.hid cn
  clear l1 l2 l3 l4 l5 l6 n1' n2' n3' ca cb cc cn n1 n2 n3 x1 y1 z1 x2 y2 z2 e1 e2 e3 f1 f2 f3 r1 r2 p ha hb hc hc0
  obtain ⟨rfl, rfl⟩ := hcc
  refine calls_g fun g => ?_
  go_enter Try.func16, Try.ntmps16
  go_wp2_with (with_reducible refine G.any_mark _ ?_; (try generalize Array.size (World.heap (G.w _)) = bk); (try dsimp only [List.set_cons_zero, List.set_cons_succ]); (try clear g); intro g)
  refine (CA.out _).mono ?_; rintro e w1 ⟨rfl, rfl⟩
  go_wp2_with (with_reducible refine G.any_mark _ ?_; (try generalize Array.size (World.heap (G.w _)) = bk); (try dsimp only [List.set_cons_zero, List.set_cons_succ]); (try clear g); intro g)
  refine (CB.out _).mono ?_; rintro e w1 ⟨rfl, rfl⟩
  go_wp2_with (with_reducible refine G.any_mark _ ?_; (try generalize Array.size (World.heap (G.w _)) = bk); (try dsimp only [List.set_cons_zero, List.set_cons_succ]); (try clear g); intro g)
  refine (CC.out _).mono ?_; rintro e w1 ⟨rfl, rfl⟩
  go_wp2_with (with_reducible refine G.any_mark _ ?_; (try generalize Array.size (World.heap (G.w _)) = bk); (try dsimp only [List.set_cons_zero, List.set_cons_succ]); (try clear g); intro g)
  refine (CN.out _).mono ?_; rintro e w1 ⟨rfl, rfl⟩
  go_wp2_with (with_reducible refine G.any_mark _ ?_; (try generalize Array.size (World.heap (G.w _)) = bk); (try dsimp only [List.set_cons_zero, List.set_cons_succ]); (try clear g); intro g)
  refine (L1.out _).mono ?_; rintro e w1 ⟨rfl, hb⟩; obtain ⟨g1, rfl⟩ := G.call_ex _ hb; clear hb; (try clear g); revert g1; intro g
  go_wp2_with (with_reducible refine G.any_mark _ ?_; (try generalize Array.size (World.heap (G.w _)) = bk); (try dsimp only [List.set_cons_zero, List.set_cons_succ]); (try clear g); intro g)
  refine (L2.out _).mono ?_; rintro e w1 ⟨rfl, hb⟩; obtain ⟨g1, rfl⟩ := G.call_ex _ hb; clear hb; (try clear g); revert g1; intro g
  go_wp2_with (with_reducible refine G.any_mark _ ?_; (try generalize Array.size (World.heap (G.w _)) = bk); (try dsimp only [List.set_cons_zero, List.set_cons_succ]); (try clear g); intro g)
  refine (L3.out _).mono ?_; rintro e w1 ⟨rfl, hb⟩; obtain ⟨g1, rfl⟩ := G.call_ex _ hb; clear hb; (try clear g); revert g1; intro g
  go_wp2_with (with_reducible refine G.any_mark _ ?_; (try generalize Array.size (World.heap (G.w _)) = bk); (try dsimp only [List.set_cons_zero, List.set_cons_succ]); (try clear g); intro g)
  refine (L4.out _).mono ?_; rintro e w1 ⟨rfl, hb⟩; obtain ⟨g1, rfl⟩ := G.call_ex _ hb; clear hb; (try clear g); revert g1; intro g
  go_wp2_with (with_reducible refine G.any_mark _ ?_; (try generalize Array.size (World.heap (G.w _)) = bk); (try dsimp only [List.set_cons_zero, List.set_cons_succ]); (try clear g); intro g)
  refine (L5.out _).mono ?_; rintro e w1 ⟨rfl, hb⟩; obtain ⟨g1, rfl⟩ := G.call_ex _ hb; clear hb; (try clear g); revert g1; intro g
  go_wp2_with (with_reducible refine G.any_mark _ ?_; (try generalize Array.size (World.heap (G.w _)) = bk); (try dsimp only [List.set_cons_zero, List.set_cons_succ]); (try clear g); intro g)
  refine (L6.out _).mono ?_; rintro e w1 ⟨rfl, hb⟩; obtain ⟨g1, rfl⟩ := G.call_ex _ hb; clear hb; (try clear g); revert g1; intro g
  go_wp2_with (with_reducible refine G.any_mark _ ?_; (try generalize Array.size (World.heap (G.w _)) = bk); (try dsimp only [List.set_cons_zero, List.set_cons_succ]); (try clear g); intro g)
  refine (lives1_any _).mono ?_; rintro e w1 ⟨rfl, hb⟩; obtain ⟨g1, rfl⟩ := G.call_ex _ hb; clear hb; (try clear g); revert g1; intro g
  go_wp2_with (with_reducible refine G.any_mark _ ?_; (try generalize Array.size (World.heap (G.w _)) = bk); (try dsimp only [List.set_cons_zero, List.set_cons_succ]); (try clear g); intro g)
  refine (N1'.out _).mono ?_; rintro e w1 ⟨rfl, rfl⟩
  go_wp2_with (with_reducible refine G.any_mark _ ?_; (try generalize Array.size (World.heap (G.w _)) = bk); (try dsimp only [List.set_cons_zero, List.set_cons_succ]); (try clear g); intro g)
  refine (N2'.out _).mono ?_; rintro e w1 ⟨rfl, rfl⟩
  go_wp2_with (with_reducible refine G.any_mark _ ?_; (try generalize Array.size (World.heap (G.w _)) = bk); (try dsimp only [List.set_cons_zero, List.set_cons_succ]); (try clear g); intro g)
  refine (N3'.out _).mono ?_; rintro e w1 ⟨rfl, rfl⟩
  go_wp2_with (with_reducible refine G.any_mark _ ?_; (try generalize Array.size (World.heap (G.w _)) = bk); (try dsimp only [List.set_cons_zero, List.set_cons_succ]); (try clear g); intro g)
  go_ret
  exact ⟨rfl, G.below _⟩
set_option maxHeartbeats 4000000 in
set_option maxRecDepth 100000 in
theorem rounds_1 (a0 b0 c0 n0 a b c0' c : Int) (m : Nat) (ha : -1000000 ≤ a ∧ a ≤ 1000000) (hb : -1000000 ≤ b ∧ b ≤ 1000000) (hc : -1000000 ≤ c ∧ c ≤ 1000000) (hc0 : c ≠ 0) (hm : m ≤ 20) (hcc : ¬ c0' = 0 ∧ c = c0')
    (ca : ∀ w, Calls Try.prog 74 #[.int .i64 a0, .int .i64 1000000] w fun e w' => e = .returned (.int .i64 a) ∧ w = w')
    (cb : ∀ w, Calls Try.prog 74 #[.int .i64 b0, .int .i64 1000000] w fun e w' => e = .returned (.int .i64 b) ∧ w = w')
    (cc : ∀ w, Calls Try.prog 74 #[.int .i64 c0, .int .i64 1000000] w fun e w' => e = .returned (.int .i64 c0') ∧ w = w')
    (cn : ∀ w, Calls Try.prog 49 #[.int .i64 n0, .int .i64 21] w fun e w' => e = .returned (.int .i64 m) ∧ w = w') (w : World) :
    Calls Try.prog 16 #[.int .i64 a0, .int .i64 b0, .int .i64 c0, .int .i64 n0] w fun e w' => e = .returned (.bool true) ∧ Below w.heap.size w w' := by
  obtain ⟨X, Y, Z, XN, YN, ZN, x1, y1, z1, x2, y2, z2, l1, l2, l3, l4, l5, l6, n1, n2, n3⟩ := rounds_plain a b c m ha hb hc hc0 hm
  have p := pow20 hm
  have r1 := mul_r a b ha (by omega)
  have r2 := mul_r a (2 ^ m) ha (by omega)
  have w1 : IntKind.i64.wrap (-X) = XN := by rw [x1]; exact IntWalk.i64_in _ x2
  have w2 : IntKind.i64.wrap (-Y) = YN := by rw [y1]; exact IntWalk.i64_in _ y2
  have w3 : IntKind.i64.wrap (-Z) = ZN := by rw [z1]; exact IntWalk.i64_in _ z2
  obtain ⟨NA, e1⟩ : ∃ v, -a = v := ⟨_, rfl⟩
  obtain ⟨NB, e2⟩ : ∃ v, -b = v := ⟨_, rfl⟩
  obtain ⟨NC, e3⟩ : ∃ v, -c = v := ⟨_, rfl⟩
  have w4 : IntKind.i64.wrap (-a) = NA := by rw [e1]; exact IntWalk.i64_in _ (by omega)
  have w5 : IntKind.i64.wrap (-b) = NB := by rw [e2]; exact IntWalk.i64_in _ (by omega)
  have w6 : IntKind.i64.wrap (-c) = NC := by rw [e3]; exact IntWalk.i64_in _ (by omega)
  rw [e1] at l4
  rw [e3] at l5
  rw [e2] at l6
  obtain ⟨AB, f1⟩ : ∃ v, a * b = v := ⟨_, rfl⟩
  obtain ⟨AE, f2⟩ : ∃ v, a * 2 ^ m = v := ⟨_, rfl⟩
  obtain ⟨E, f3⟩ : ∃ v, (2 : Int) ^ m = v := ⟨_, rfl⟩
  have w7 : IntKind.i64.wrap (a * b) = AB := by rw [← f1]; exact IntWalk.i64_in _ r1
  have w8 : IntKind.i64.wrap (a * 2 ^ m) = AE := by rw [← f2]; exact IntWalk.i64_in _ r2
  have w9 : IntKind.i64.wrap (2 ^ m) = E := by rw [← f3]; exact IntWalk.i64_in _ (by omega)
  have n1' : ∀ w, Calls Try.prog 75 #[.int .i64 X, .int .i64 AB, .int .i64 E] w fun e w' => e = .returned (.bool true) ∧ w = w' := by rw [← f1, ← f3]; exact n1
  have n2' : ∀ w, Calls Try.prog 75 #[.int .i64 Y, .int .i64 AE, .int .i64 c] w fun e w' => e = .returned (.bool true) ∧ w = w' := by rw [← f2]; exact n2
  have n3' : ∀ w, Calls Try.prog 75 #[.int .i64 Z, .int .i64 AB, .int .i64 c] w fun e w' => e = .returned (.bool true) ∧ w = w' := by rw [← f1]; exact n3
  have L1 := Lib.hid l1
  have L2 := Lib.hid l2
  have L3 := Lib.hid l3
  have L4 := Lib.hid l4
  have L5 := Lib.hid l5
  have L6 := Lib.hid l6
  have N1' := Lib.hid n1'
  have N2' := Lib.hid n2'
  have N3' := Lib.hid n3'
  have CA := Lib.hid ca
  have CB := Lib.hid cb
  have CC := Lib.hid cc
  have CN := Lib.hid cn
  clear l1 l2 l3 l4 l5 l6 n1' n2' n3' ca cb cc cn n1 n2 n3 x1 y1 z1 x2 y2 z2 e1 e2 e3 f1 f2 f3 r1 r2 p ha hb hc hc0
  obtain ⟨hcz, rfl⟩ := hcc
  refine calls_g fun g => ?_
  go_enter Try.func16, Try.ntmps16
  go_wp2_with (with_reducible refine G.any_mark _ ?_; (try generalize Array.size (World.heap (G.w _)) = bk); (try dsimp only [List.set_cons_zero, List.set_cons_succ]); (try clear g); intro g)
  refine (CA.out _).mono ?_; rintro e w1 ⟨rfl, rfl⟩
  go_wp2_with (with_reducible refine G.any_mark _ ?_; (try generalize Array.size (World.heap (G.w _)) = bk); (try dsimp only [List.set_cons_zero, List.set_cons_succ]); (try clear g); intro g)
  refine (CB.out _).mono ?_; rintro e w1 ⟨rfl, rfl⟩
  go_wp2_with (with_reducible refine G.any_mark _ ?_; (try generalize Array.size (World.heap (G.w _)) = bk); (try dsimp only [List.set_cons_zero, List.set_cons_succ]); (try clear g); intro g)
  refine (CC.out _).mono ?_; rintro e w1 ⟨rfl, rfl⟩
  go_wp2_with (with_reducible refine G.any_mark _ ?_; (try generalize Array.size (World.heap (G.w _)) = bk); (try dsimp only [List.set_cons_zero, List.set_cons_succ]); (try clear g); intro g)
  refine (CN.out _).mono ?_; rintro e w1 ⟨rfl, rfl⟩
  go_wp2_with (with_reducible refine G.any_mark _ ?_; (try generalize Array.size (World.heap (G.w _)) = bk); (try dsimp only [List.set_cons_zero, List.set_cons_succ]); (try clear g); intro g)
  refine (L1.out _).mono ?_; rintro e w1 ⟨rfl, hb⟩; obtain ⟨g1, rfl⟩ := G.call_ex _ hb; clear hb; (try clear g); revert g1; intro g
  go_wp2_with (with_reducible refine G.any_mark _ ?_; (try generalize Array.size (World.heap (G.w _)) = bk); (try dsimp only [List.set_cons_zero, List.set_cons_succ]); (try clear g); intro g)
  refine (L2.out _).mono ?_; rintro e w1 ⟨rfl, hb⟩; obtain ⟨g1, rfl⟩ := G.call_ex _ hb; clear hb; (try clear g); revert g1; intro g
  go_wp2_with (with_reducible refine G.any_mark _ ?_; (try generalize Array.size (World.heap (G.w _)) = bk); (try dsimp only [List.set_cons_zero, List.set_cons_succ]); (try clear g); intro g)
  refine (L3.out _).mono ?_; rintro e w1 ⟨rfl, hb⟩; obtain ⟨g1, rfl⟩ := G.call_ex _ hb; clear hb; (try clear g); revert g1; intro g
  go_wp2_with (with_reducible refine G.any_mark _ ?_; (try generalize Array.size (World.heap (G.w _)) = bk); (try dsimp only [List.set_cons_zero, List.set_cons_succ]); (try clear g); intro g)
  refine (L4.out _).mono ?_; rintro e w1 ⟨rfl, hb⟩; obtain ⟨g1, rfl⟩ := G.call_ex _ hb; clear hb; (try clear g); revert g1; intro g
  go_wp2_with (with_reducible refine G.any_mark _ ?_; (try generalize Array.size (World.heap (G.w _)) = bk); (try dsimp only [List.set_cons_zero, List.set_cons_succ]); (try clear g); intro g)
  refine (L5.out _).mono ?_; rintro e w1 ⟨rfl, hb⟩; obtain ⟨g1, rfl⟩ := G.call_ex _ hb; clear hb; (try clear g); revert g1; intro g
  go_wp2_with (with_reducible refine G.any_mark _ ?_; (try generalize Array.size (World.heap (G.w _)) = bk); (try dsimp only [List.set_cons_zero, List.set_cons_succ]); (try clear g); intro g)
  refine (L6.out _).mono ?_; rintro e w1 ⟨rfl, hb⟩; obtain ⟨g1, rfl⟩ := G.call_ex _ hb; clear hb; (try clear g); revert g1; intro g
  go_wp2_with (with_reducible refine G.any_mark _ ?_; (try generalize Array.size (World.heap (G.w _)) = bk); (try dsimp only [List.set_cons_zero, List.set_cons_succ]); (try clear g); intro g)
  refine (lives1_any _).mono ?_; rintro e w1 ⟨rfl, hb⟩; obtain ⟨g1, rfl⟩ := G.call_ex _ hb; clear hb; (try clear g); revert g1; intro g
  go_wp2_with (with_reducible refine G.any_mark _ ?_; (try generalize Array.size (World.heap (G.w _)) = bk); (try dsimp only [List.set_cons_zero, List.set_cons_succ]); (try clear g); intro g)
  refine (N1'.out _).mono ?_; rintro e w1 ⟨rfl, rfl⟩
  go_wp2_with (with_reducible refine G.any_mark _ ?_; (try generalize Array.size (World.heap (G.w _)) = bk); (try dsimp only [List.set_cons_zero, List.set_cons_succ]); (try clear g); intro g)
  refine (N2'.out _).mono ?_; rintro e w1 ⟨rfl, rfl⟩
  go_wp2_with (with_reducible refine G.any_mark _ ?_; (try generalize Array.size (World.heap (G.w _)) = bk); (try dsimp only [List.set_cons_zero, List.set_cons_succ]); (try clear g); intro g)
  refine (N3'.out _).mono ?_; rintro e w1 ⟨rfl, rfl⟩
  go_wp2_with (with_reducible refine G.any_mark _ ?_; (try generalize Array.size (World.heap (G.w _)) = bk); (try dsimp only [List.set_cons_zero, List.set_cons_succ]); (try clear g); intro g)
  go_ret
  exact ⟨rfl, G.below _⟩
theorem rounds_walk (a b c n : Int) (w : World) :
    Calls Try.prog 16 #[.int .i64 a, .int .i64 b, .int .i64 c, .int .i64 n] w fun e w' => e = .returned (.bool true) ∧ Below w.heap.size w w' := by
  obtain ⟨A, a1, a2, ca⟩ := small_any a w
  obtain ⟨B, b1, b2, cb⟩ := small_any b w
  obtain ⟨C, c1, c2, cc⟩ := small_any c w
  have h1 := Int.emod_nonneg n (show (21 : Int) ≠ 0 by omega)
  have h2 := Int.emod_lt_of_pos n (show (0 : Int) < 21 by omega)
  have cn := fun w => pick_any n 21 (by omega) (by omega) w
  obtain ⟨m, hm⟩ := Int.eq_ofNat_of_zero_le h1
  rw [hm] at cn h2
  by_cases hz : C = 0
  · exact rounds_0 a b c n A B C 1 m ⟨a1, a2⟩ ⟨b1, b2⟩ (by omega) (by omega) (by omega) ⟨hz, rfl⟩ ca cb cc cn w
  · exact rounds_1 a b c n A B C C m ⟨a1, a2⟩ ⟨b1, b2⟩ ⟨c1, c2⟩ hz (by omega) ⟨hz, rfl⟩ ca cb cc cn w
end Go.Proofs.Ytgehbebjgmeccaa
