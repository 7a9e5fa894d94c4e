/- Contracts of functions of the program, out of walks. Their conditions stand ahead of each. -/
import Derived.Test.YtfifcpgjcgoinaaN28
set_option linter.unusedVariables false
set_option linter.unusedSimpArgs false
set_option exponentiation.threshold 10000
namespace Go.Proofs.Ytfifcpgjcgoinaa
open Go.RowKit GW NL
theorem Sub_rv (a b p : Nat) (hp : a - b = p) (ha : a < 2 ^ 8192) (hb : b < 2 ^ 8192) (hab : b ≤ a) (A1 A2 : Option Addr) (c1 c2 : Nat) (w : World) (h1 : SlW w A1 c1 (limbs a)) (h2 : SlW w A2 c2 (limbs b)) :
    Calls Try.prog 25 #[.slice A1 (limbs a).length c1, .slice A2 (limbs b).length c2] w (RV p w) := by
  subst hp; exact Sub_ok A1 A2 c1 c2 a b w h1 h2 ha hb hab
theorem ShiftUp_rv (a s p : Nat) (hp : a * 2 ^ s = p) (ha : a < 2 ^ 8192) (hs : s ≤ 10000) (hpb : p < 2 ^ 8192) (A1 : Option Addr) (c1 : Nat) (w : World) (h1 : SlW w A1 c1 (limbs a)) :
    Calls Try.prog 27 #[.slice A1 (limbs a).length c1, .int .i64 (s : Int)] w (RV p w) := by
  have := Shift_up A1 c1 a s w h1 ha hs
  rw [hp] at this
  unfold outN at this
  rw [if_neg (by simp), if_pos hpb] at this
  exact this
theorem ShiftDown_rv (a s p : Nat) (hp : a / 2 ^ s = p) (ha : a < 2 ^ 8192) (hs : s ≤ 10000) (A1 : Option Addr) (c1 : Nat) (w : World) (h1 : SlW w A1 c1 (limbs a)) :
    Calls Try.prog 27 #[.slice A1 (limbs a).length c1, .int .i64 (-(s : Int))] w (RV p w) := by
  have := Shift_down A1 c1 a s w h1 ha hs
  rw [hp] at this
  exact this
theorem add_lt' {a b k : Nat} (h1 : a < 2 ^ k) (h2 : b < 2 ^ k) : a + b < 2 ^ (k + 1) := by rw [Nat.pow_succ]; omega
set_option maxRecDepth 100000 in
set_option maxHeartbeats 1000000 in
theorem ring_walk (A1 A2 A3 : Option Addr) (c1 c2 c3 : Nat) (l1 l2 l3 : List Nat) (n : Int) (hn1 : -9223372036854775808 ≤ n) (hn2 : n ≤ 9223372036854775807) (w : World) (h1 : SlW w A1 c1 l1) (h2 : SlW w A2 c2 l2) (h3 : SlW w A3 c3 l3) (hl1 : l1.length ≤ 35184372088832) (hl2 : l2.length ≤ 35184372088832) (hl3 : l3.length ≤ 35184372088832) :
    Calls Try.prog 6 #[.slice A1 l1.length c1, .slice A2 l2.length c2, .slice A3 l3.length c3, .int .i64 n] w fun e w' => e = .returned (.bool true) ∧ Below w.heap.size w w' := by
  refine calls_b fun g => ?_
  have CV1 := Lib.hid (fun w h => valid_any A1 c1 l1 40 w h hl1 (by omega))
  have CV2 := Lib.hid (fun w h => valid_any A2 c2 l2 40 w h hl2 (by omega))
  have CV3 := Lib.hid (fun w h => valid_any A3 c3 l3 40 w h hl3 (by omega))
  have b1 := cut_lt h1.ok 40
  have b2 := cut_lt h2.ok 40
  have b3 := cut_lt h3.ok 40
  generalize cut l1 40 = a at *
  generalize cut l2 40 = b at *
  generalize cut l3 40 = c at *
  have CL := Lib.hid lives_any
  have CP := Lib.hid (fun w => pick_any n hn1 hn2 w)
  obtain ⟨s1, e1⟩ : ∃ x, a + b = x := ⟨_, rfl⟩
  obtain ⟨s2, e2⟩ : ∃ x, s1 + c = x := ⟨_, rfl⟩
  obtain ⟨s3, e3⟩ : ∃ x, b + c = x := ⟨_, rfl⟩
  obtain ⟨p1, f1⟩ : ∃ x, a * b = x := ⟨_, rfl⟩
  obtain ⟨p3, f3⟩ : ∃ x, p1 * c = x := ⟨_, rfl⟩
  obtain ⟨p4, f4⟩ : ∃ x, b * c = x := ⟨_, rfl⟩
  obtain ⟨p6, f6⟩ : ∃ x, a * s3 = x := ⟨_, rfl⟩
  obtain ⟨p7, f7⟩ : ∃ x, a * c = x := ⟨_, rfl⟩
  have g1 : b + a = s1 := by omega
  have g2 : a + s3 = s2 := by omega
  have g3 : s1 - b = a := by omega
  have g4 : b * a = p1 := by rw [Nat.mul_comm]; exact f1
  have g5 : a * p4 = p3 := by rw [← f3, ← f1, ← f4, Nat.mul_assoc]
  have g6 : p1 + p7 = p6 := by rw [← f1, ← f7, ← f6, ← e3, Nat.mul_add]
  have h40 : (2 : Nat) ^ (32 * 40) = 2 ^ 1280 := rfl
  have B1 : s1 < 2 ^ 1281 := by rw [← e1]; exact add_lt' b1 b2
  have B3 : s3 < 2 ^ 1281 := by rw [← e3]; exact add_lt' b2 b3
  have P1 : p1 < 2 ^ (1280 + 1280) := by rw [← f1]; exact mul_lt' b1 b2
  have B2 : s2 < 2 ^ 8192 := by
    have : s2 < 2 ^ 1282 := by rw [← e2]; exact add_lt' B1 (Nat.lt_trans b3 (Nat.pow_lt_pow_right (by decide) (by decide)))
    exact pow_lt' this (by decide)
  have P3 : p3 < 2 ^ 8192 := by rw [← f3]; exact pow_lt' (mul_lt' P1 b3) (by decide)
  have P4 : p4 < 2 ^ 8192 := by rw [← f4]; exact pow_lt' (mul_lt' b2 b3) (by decide)
  have P6 : p6 < 2 ^ 8192 := by rw [← f6]; exact pow_lt' (mul_lt' b1 B3) (by decide)
  have P7 : p7 < 2 ^ 8192 := by rw [← f7]; exact pow_lt' (mul_lt' b1 b3) (by decide)
  have P1 := pow_lt' P1 (by decide)
  have HS : Hid (∀ k, k < 500 → a * 2 ^ k < 2 ^ 8192) := Lib.hid (fun k hk => pow_lt' (Nat.lt_of_lt_of_le (Nat.mul_lt_mul_of_pos_right b1 (Nat.two_pow_pos k)) (by rw [← Nat.pow_add]; exact Nat.pow_le_pow_right (by decide) (show 32 * 40 + k ≤ 2000 by omega))) (by decide))
  have b1 := pow_lt' b1 (by decide)
  have b2 := pow_lt' b2 (by decide)
  have b3 := pow_lt' b3 (by decide)
  have B1 := pow_lt' B1 (by decide)
  have B3 := pow_lt' B3 (by decide)
  have CA1 := Lib.hid (Add_rv a b s1 e1 b1 b2 B1)
  have CA2 := Lib.hid (Add_rv b a s1 g1 b2 b1 B1)
  have CA3 := Lib.hid (Add_rv s1 c s2 e2 B1 b3 B2)
  have CA4 := Lib.hid (Add_rv b c s3 e3 b2 b3 B3)
  have CA5 := Lib.hid (Add_rv a s3 s2 g2 b1 B3 B2)
  have CA6 := Lib.hid (Sub_rv s1 b a g3 B1 b2 (by omega))
  have CM1 := Lib.hid (Mul_rv a b p1 f1 b1 b2 P1)
  have CM2 := Lib.hid (Mul_rv b a p1 g4 b2 b1 P1)
  have CM3 := Lib.hid (Mul_rv p1 c p3 f3 P1 b3 P3)
  have CM4 := Lib.hid (Mul_rv b c p4 f4 b2 b3 P4)
  have CM5 := Lib.hid (Mul_rv a p4 p3 g5 b1 P4 P3)
  have CM6 := Lib.hid (Mul_rv a s3 p6 f6 b1 B3 P6)
  have CM7 := Lib.hid (Mul_rv a c p7 f7 b1 b3 P7)
  have CM8 := Lib.hid (Add_rv p1 p7 p6 g6 P1 P7 P6)
  have CS := Lib.hid (fun v => same_rv v)
  have HA := Lib.hid b1
  clear e1 e2 e3 f1 f3 f4 f6 f7 g1 g2 g3 g4 g5 g6 h40 b1 b2 b3 B1 B2 B3 P1 P3 P4 P6 P7 hl1 hl2 hl3 hn1 hn2
  generalize hn1 : l1.length = n1 at *
  generalize hn2 : l2.length = n2 at *
  generalize hn3 : l3.length = n3 at *
  clear hn1 hn2 hn3
  go_enter Try.func6, Try.ntmps6
  go_wp2_with (with_reducible refine G.any_mark _ ?_; (try generalize Array.size (World.heap (G.w _)) = bk); (try dsimp only [List.set_cons_zero, List.set_cons_succ]); (try clear g); intro g)
  refine (CL.out _).mono ?_
  rintro e w1 ⟨rfl, hb⟩
  obtain ⟨g1, rfl⟩ := G.call_ex _ hb
  clear hb
  (try clear g)
  revert g1
  intro g
  go_wp2_with (with_reducible refine G.any_mark _ ?_; (try generalize Array.size (World.heap (G.w _)) = bk); (try dsimp only [List.set_cons_zero, List.set_cons_succ]); (try clear g); intro g)
  refine (CV1.out _ (G.sl g (by simp) h1)).mono ?_
  rintro e w1 ⟨Aa, ca, Fa, rfl, hsa, hn⟩
  have hnna := fun k o hk => Nat.le_trans g.chg.size (hn.new k o hk)
  obtain ⟨g1, rfl⟩ := G.new_ex _ hn
  clear hn
  (try clear g)
  revert g1
  intro g
  go_wp2_with (with_reducible refine G.any_mark _ ?_; (try generalize Array.size (World.heap (G.w _)) = bk); (try dsimp only [List.set_cons_zero, List.set_cons_succ]); (try clear g); intro g)
  refine (CV2.out _ (G.sl g (by simp) h2)).mono ?_
  rintro e w1 ⟨Ab, cb, Fb, rfl, hsb, hn⟩
  have hnnb := fun k o hk => Nat.le_trans g.chg.size (hn.new k o hk)
  obtain ⟨g1, rfl⟩ := G.new_ex _ hn
  clear hn
  (try clear g)
  revert g1
  intro g
  go_wp2_with (with_reducible refine G.any_mark _ ?_; (try generalize Array.size (World.heap (G.w _)) = bk); (try dsimp only [List.set_cons_zero, List.set_cons_succ]); (try clear g); intro g)
  refine (CV3.out _ (G.sl g (by simp) h3)).mono ?_
  rintro e w1 ⟨Ac, cc, Fc, rfl, hsc, hn⟩
  have hnnc := fun k o hk => Nat.le_trans g.chg.size (hn.new k o hk)
  obtain ⟨g1, rfl⟩ := G.new_ex _ hn
  clear hn
  (try clear g)
  revert g1
  intro g
  go_wp2_with (with_reducible refine G.any_mark _ ?_; (try generalize Array.size (World.heap (G.w _)) = bk); (try dsimp only [List.set_cons_zero, List.set_cons_succ]); (try clear g); intro g)
  refine (CA1.out _ _ _ _ _ (G.sl g (by simp) hsa) (G.sl g (by simp) hsb)).mono ?_
  rintro e w1 ⟨Ad, cd, Fd, rfl, hsd, hn⟩
  have hnnd := fun k o hk => Nat.le_trans g.chg.size (hn.new k o hk)
  obtain ⟨g1, rfl⟩ := G.new_ex _ hn
  clear hn
  (try clear g)
  revert g1
  intro g
  go_wp2_with (with_reducible refine G.any_mark _ ?_; (try generalize Array.size (World.heap (G.w _)) = bk); (try dsimp only [List.set_cons_zero, List.set_cons_succ]); (try clear g); intro g)
  refine (CA2.out _ _ _ _ _ (G.sl g (by simp) hsb) (G.sl g (by simp) hsa)).mono ?_
  rintro e w1 ⟨Ae, ce, Fe, rfl, hse, hn⟩
  have hnne := fun k o hk => Nat.le_trans g.chg.size (hn.new k o hk)
  obtain ⟨g1, rfl⟩ := G.new_ex _ hn
  clear hn
  (try clear g)
  revert g1
  intro g
  go_wp2_with (with_reducible refine G.any_mark _ ?_; (try generalize Array.size (World.heap (G.w _)) = bk); (try dsimp only [List.set_cons_zero, List.set_cons_succ]); (try clear g); intro g)
  refine (CA3.out _ _ _ _ _ (G.sl g (by simp) hsd) (G.sl g (by simp) hsc)).mono ?_
  rintro e w1 ⟨Af, cf, Ff, rfl, hsf, hn⟩
  have hnnf := fun k o hk => Nat.le_trans g.chg.size (hn.new k o hk)
  obtain ⟨g1, rfl⟩ := G.new_ex _ hn
  clear hn
  (try clear g)
  revert g1
  intro g
  go_wp2_with (with_reducible refine G.any_mark _ ?_; (try generalize Array.size (World.heap (G.w _)) = bk); (try dsimp only [List.set_cons_zero, List.set_cons_succ]); (try clear g); intro g)
  refine (CA4.out _ _ _ _ _ (G.sl g (by simp) hsb) (G.sl g (by simp) hsc)).mono ?_
  rintro e w1 ⟨Ag, cg, Fg, rfl, hsg, hn⟩
  have hnng := fun k o hk => Nat.le_trans g.chg.size (hn.new k o hk)
  obtain ⟨g1, rfl⟩ := G.new_ex _ hn
  clear hn
  (try clear g)
  revert g1
  intro g
  go_wp2_with (with_reducible refine G.any_mark _ ?_; (try generalize Array.size (World.heap (G.w _)) = bk); (try dsimp only [List.set_cons_zero, List.set_cons_succ]); (try clear g); intro g)
  refine (CA5.out _ _ _ _ _ (G.sl g (by simp) hsa) (G.sl g (by simp) hsg)).mono ?_
  rintro e w1 ⟨Ah, ch, Fh, rfl, hsh, hn⟩
  have hnnh := fun k o hk => Nat.le_trans g.chg.size (hn.new k o hk)
  obtain ⟨g1, rfl⟩ := G.new_ex _ hn
  clear hn
  (try clear g)
  revert g1
  intro g
  go_wp2_with (with_reducible refine G.any_mark _ ?_; (try generalize Array.size (World.heap (G.w _)) = bk); (try dsimp only [List.set_cons_zero, List.set_cons_succ]); (try clear g); intro g)
  refine (CA6.out _ _ _ _ _ (G.sl g (by simp) hsd) (G.sl g (by simp) hsb)).mono ?_
  rintro e w1 ⟨Ai, ci, Fi, rfl, hsi, hn⟩
  have hnni := fun k o hk => Nat.le_trans g.chg.size (hn.new k o hk)
  obtain ⟨g1, rfl⟩ := G.new_ex _ hn
  clear hn
  (try clear g)
  revert g1
  intro g
  go_wp2_with (with_reducible refine G.any_mark _ ?_; (try generalize Array.size (World.heap (G.w _)) = bk); (try dsimp only [List.set_cons_zero, List.set_cons_succ]); (try clear g); intro g)
  refine (CS.out _ _ _ _ _ _ (G.sl g (by simp) hsd) (G.sl g (by simp) hse)).mono ?_
  rintro e w1 ⟨rfl, hb⟩
  obtain ⟨g1, rfl⟩ := G.call_ex _ hb
  clear hb
  (try clear g)
  revert g1
  intro g
  go_wp2_with (with_reducible refine G.any_mark _ ?_; (try generalize Array.size (World.heap (G.w _)) = bk); (try dsimp only [List.set_cons_zero, List.set_cons_succ]); (try clear g); intro g)
  refine (CS.out _ _ _ _ _ _ (G.sl g (by simp) hsf) (G.sl g (by simp) hsh)).mono ?_
  rintro e w1 ⟨rfl, hb⟩
  obtain ⟨g1, rfl⟩ := G.call_ex _ hb
  clear hb
  (try clear g)
  revert g1
  intro g
  go_wp2_with (with_reducible refine G.any_mark _ ?_; (try generalize Array.size (World.heap (G.w _)) = bk); (try dsimp only [List.set_cons_zero, List.set_cons_succ]); (try clear g); intro g)
  refine (CS.out _ _ _ _ _ _ (G.sl g (by simp) hsi) (G.sl g (by simp) hsa)).mono ?_
  rintro e w1 ⟨rfl, hb⟩
  obtain ⟨g1, rfl⟩ := G.call_ex _ hb
  clear hb
  (try clear g)
  revert g1
  intro g
  go_wp2_with (with_reducible refine G.any_mark _ ?_; (try generalize Array.size (World.heap (G.w _)) = bk); (try dsimp only [List.set_cons_zero, List.set_cons_succ]); (try clear g); intro g)
  refine (CM1.out _ _ _ _ _ (G.sl g (by simp) hsa) (G.sl g (by simp) hsb)).mono ?_
  rintro e w1 ⟨Aj, cj, Fj, rfl, hsj, hn⟩
  have hnnj := fun k o hk => Nat.le_trans g.chg.size (hn.new k o hk)
  obtain ⟨g1, rfl⟩ := G.new_ex _ hn
  clear hn
  (try clear g)
  revert g1
  intro g
  go_wp2_with (with_reducible refine G.any_mark _ ?_; (try generalize Array.size (World.heap (G.w _)) = bk); (try dsimp only [List.set_cons_zero, List.set_cons_succ]); (try clear g); intro g)
  refine (CM2.out _ _ _ _ _ (G.sl g (by simp) hsb) (G.sl g (by simp) hsa)).mono ?_
  rintro e w1 ⟨Ak, ck, Fk, rfl, hsk, hn⟩
  have hnnk := fun k o hk => Nat.le_trans g.chg.size (hn.new k o hk)
  obtain ⟨g1, rfl⟩ := G.new_ex _ hn
  clear hn
  (try clear g)
  revert g1
  intro g
  go_wp2_with (with_reducible refine G.any_mark _ ?_; (try generalize Array.size (World.heap (G.w _)) = bk); (try dsimp only [List.set_cons_zero, List.set_cons_succ]); (try clear g); intro g)
  refine (CM3.out _ _ _ _ _ (G.sl g (by simp) hsj) (G.sl g (by simp) hsc)).mono ?_
  rintro e w1 ⟨Al, cl, Fl, rfl, hsl, hn⟩
  have hnnl := fun k o hk => Nat.le_trans g.chg.size (hn.new k o hk)
  obtain ⟨g1, rfl⟩ := G.new_ex _ hn
  clear hn
  (try clear g)
  revert g1
  intro g
  go_wp2_with (with_reducible refine G.any_mark _ ?_; (try generalize Array.size (World.heap (G.w _)) = bk); (try dsimp only [List.set_cons_zero, List.set_cons_succ]); (try clear g); intro g)
  refine (CM4.out _ _ _ _ _ (G.sl g (by simp) hsb) (G.sl g (by simp) hsc)).mono ?_
  rintro e w1 ⟨Am, cm, Fm, rfl, hsm, hn⟩
  have hnnm := fun k o hk => Nat.le_trans g.chg.size (hn.new k o hk)
  obtain ⟨g1, rfl⟩ := G.new_ex _ hn
  clear hn
  (try clear g)
  revert g1
  intro g
  go_wp2_with (with_reducible refine G.any_mark _ ?_; (try generalize Array.size (World.heap (G.w _)) = bk); (try dsimp only [List.set_cons_zero, List.set_cons_succ]); (try clear g); intro g)
  refine (CM5.out _ _ _ _ _ (G.sl g (by simp) hsa) (G.sl g (by simp) hsm)).mono ?_
  rintro e w1 ⟨Ao, co, Fo, rfl, hso, hn⟩
  have hnno := fun k o hk => Nat.le_trans g.chg.size (hn.new k o hk)
  obtain ⟨g1, rfl⟩ := G.new_ex _ hn
  clear hn
  (try clear g)
  revert g1
  intro g
  go_wp2_with (with_reducible refine G.any_mark _ ?_; (try generalize Array.size (World.heap (G.w _)) = bk); (try dsimp only [List.set_cons_zero, List.set_cons_succ]); (try clear g); intro g)
  refine (CM6.out _ _ _ _ _ (G.sl g (by simp) hsa) (G.sl g (by simp) hsg)).mono ?_
  rintro e w1 ⟨Ap, cp, Fp, rfl, hsp, hn⟩
  have hnnp := fun k o hk => Nat.le_trans g.chg.size (hn.new k o hk)
  obtain ⟨g1, rfl⟩ := G.new_ex _ hn
  clear hn
  (try clear g)
  revert g1
  intro g
  go_wp2_with (with_reducible refine G.any_mark _ ?_; (try generalize Array.size (World.heap (G.w _)) = bk); (try dsimp only [List.set_cons_zero, List.set_cons_succ]); (try clear g); intro g)
  refine (CM7.out _ _ _ _ _ (G.sl g (by simp) hsa) (G.sl g (by simp) hsc)).mono ?_
  rintro e w1 ⟨Aq, cq, Fq, rfl, hsq, hn⟩
  have hnnq := fun k o hk => Nat.le_trans g.chg.size (hn.new k o hk)
  obtain ⟨g1, rfl⟩ := G.new_ex _ hn
  clear hn
  (try clear g)
  revert g1
  intro g
  go_wp2_with (with_reducible refine G.any_mark _ ?_; (try generalize Array.size (World.heap (G.w _)) = bk); (try dsimp only [List.set_cons_zero, List.set_cons_succ]); (try clear g); intro g)
  refine (CM8.out _ _ _ _ _ (G.sl g (by simp) hsj) (G.sl g (by simp) hsq)).mono ?_
  rintro e w1 ⟨Ar, cr, Fr, rfl, hsr, hn⟩
  have hnnr := fun k o hk => Nat.le_trans g.chg.size (hn.new k o hk)
  obtain ⟨g1, rfl⟩ := G.new_ex _ hn
  clear hn
  (try clear g)
  revert g1
  intro g
  go_wp2_with (with_reducible refine G.any_mark _ ?_; (try generalize Array.size (World.heap (G.w _)) = bk); (try dsimp only [List.set_cons_zero, List.set_cons_succ]); (try clear g); intro g)
  refine (CS.out _ _ _ _ _ _ (G.sl g (by simp) hsj) (G.sl g (by simp) hsk)).mono ?_
  rintro e w1 ⟨rfl, hb⟩
  obtain ⟨g1, rfl⟩ := G.call_ex _ hb
  clear hb
  (try clear g)
  revert g1
  intro g
  go_wp2_with (with_reducible refine G.any_mark _ ?_; (try generalize Array.size (World.heap (G.w _)) = bk); (try dsimp only [List.set_cons_zero, List.set_cons_succ]); (try clear g); intro g)
  refine (CS.out _ _ _ _ _ _ (G.sl g (by simp) hsl) (G.sl g (by simp) hso)).mono ?_
  rintro e w1 ⟨rfl, hb⟩
  obtain ⟨g1, rfl⟩ := G.call_ex _ hb
  clear hb
  (try clear g)
  revert g1
  intro g
  go_wp2_with (with_reducible refine G.any_mark _ ?_; (try generalize Array.size (World.heap (G.w _)) = bk); (try dsimp only [List.set_cons_zero, List.set_cons_succ]); (try clear g); intro g)
  refine (CS.out _ _ _ _ _ _ (G.sl g (by simp) hsp) (G.sl g (by simp) hsr)).mono ?_
  rintro e w1 ⟨rfl, hb⟩
  obtain ⟨g1, rfl⟩ := G.call_ex _ hb
  clear hb
  (try clear g)
  revert g1
  intro g
  go_wp2_with (with_reducible refine G.any_mark _ ?_; (try generalize Array.size (World.heap (G.w _)) = bk); (try dsimp only [List.set_cons_zero, List.set_cons_succ]); (try clear g); intro g)
  refine (CP.out _).mono ?_
  rintro e w1 ⟨k, hk, rfl, rfl⟩
  have hsS := HS.out k hk
  obtain ⟨S, hS⟩ : ∃ S, a * 2 ^ k = S := ⟨_, rfl⟩
  rw [hS] at hsS
  obtain ⟨T, hT⟩ : ∃ T, 1 * 2 ^ k = T := ⟨_, rfl⟩
  have hTb : T < 2 ^ 8192 := by rw [← hT, Nat.one_mul]; exact Nat.pow_lt_pow_right (by decide) (by omega)
  have hu : a * T = S := by rw [← hT, ← hS, Nat.one_mul]
  have hback : S / 2 ^ k = a := by rw [← hS]; exact Nat.mul_div_cancel _ (Nat.two_pow_pos k)
  have one8 : 1 < 2 ^ 8192 := small_lt (by decide)
  have CH1 := Lib.hid (ShiftUp_rv a k S hS HA.out (by omega) hsS)
  have CH2 := Lib.hid (ShiftDown_rv S k a hback hsS (by omega))
  have CH3 := Lib.hid (ShiftUp_rv 1 k T hT one8 (by omega) hTb)
  have CM9 := Lib.hid (Mul_rv a T S hu HA.out hTb hsS)
  have ee : limbs 1 = [1] := lim1 (by decide) (by decide)
  have hL1 : (limbs 1).length = 1 := by rw [ee]; rfl
  rw [hL1] at CH3
  have n1' : Hid ((limbs 1).length = 1 ∧ [Value.int .u32 1] = u32s (limbs 1)) := Lib.hid ⟨hL1, by rw [ee]; rfl⟩
  obtain ⟨N, hN⟩ : ∃ N, -(k : Int) = N := ⟨_, rfl⟩
  have hwn : IntKind.i64.wrap N = N := by rw [IntKind.wrap_i64]; omega
  rw [hN] at CH2
  clear hsS hS hT hTb hu hback one8 ee hL1 CA1 CA2 CA3 CA4 CA5 CA6 CM1 CM2 CM3 CM4 CM5 CM6 CM7 CM8 CV1 CV2 CV3 HS CP hk
  go_wp2_with (with_reducible refine G.any_mark _ ?_; (try generalize Array.size (World.heap (G.w _)) = bk); (try dsimp only [List.set_cons_zero, List.set_cons_succ]); (try clear g); intro g)
  refine (CH1.out _ _ _ (G.sl g (by simp) hsa)).mono ?_
  rintro e w1 ⟨As, cs, Fs, rfl, hss, hn⟩
  have hnns := fun k o hk => Nat.le_trans g.chg.size (hn.new k o hk)
  obtain ⟨g1, rfl⟩ := G.new_ex _ hn
  clear hn
  (try clear g)
  revert g1
  intro g
  go_wp2_with (with_reducible refine G.any_mark _ ?_; (try generalize Array.size (World.heap (G.w _)) = bk); (try dsimp only [List.set_cons_zero, List.set_cons_succ]); (try clear g); intro g)
  refine (CH2.out _ _ _ (G.sl g (by simp) hss)).mono ?_
  rintro e w1 ⟨At, ct, Ft, rfl, hst, hn⟩
  have hnnt := fun k o hk => Nat.le_trans g.chg.size (hn.new k o hk)
  obtain ⟨g1, rfl⟩ := G.new_ex _ hn
  clear hn
  (try clear g)
  revert g1
  intro g
  go_wp2_with (with_reducible refine G.any_mark _ ?_; (try generalize Array.size (World.heap (G.w _)) = bk); (try dsimp only [List.set_cons_zero, List.set_cons_succ]); (try clear g); intro g)
  refine (CH3.out _ _ _ (G.lit0 g _ _ n1'.out.2 n1'.out.1 (by decide))).mono ?_
  rintro e w1 ⟨Au, cu, Fu, rfl, hsu, hn⟩
  have hnnu := fun k o hk => Nat.le_trans g.chg.size (hn.new k o hk)
  obtain ⟨g1, rfl⟩ := G.new_ex _ hn
  clear hn
  (try clear g)
  revert g1
  intro g
  go_wp2_with (with_reducible refine G.any_mark _ ?_; (try generalize Array.size (World.heap (G.w _)) = bk); (try dsimp only [List.set_cons_zero, List.set_cons_succ]); (try clear g); intro g)
  refine (CM9.out _ _ _ _ _ (G.sl g (by simp) hsa) (G.sl g (by simp) hsu)).mono ?_
  rintro e w1 ⟨Av, cv, Fv, rfl, hsv, hn⟩
  have hnnv := fun k o hk => Nat.le_trans g.chg.size (hn.new k o hk)
  obtain ⟨g1, rfl⟩ := G.new_ex _ hn
  clear hn
  (try clear g)
  revert g1
  intro g
  go_wp2_with (with_reducible refine G.any_mark _ ?_; (try generalize Array.size (World.heap (G.w _)) = bk); (try dsimp only [List.set_cons_zero, List.set_cons_succ]); (try clear g); intro g)
  refine (CS.out _ _ _ _ _ _ (G.sl g (by simp) hss) (G.sl g (by simp) hsv)).mono ?_
  rintro e w1 ⟨rfl, hb⟩
  obtain ⟨g1, rfl⟩ := G.call_ex _ hb
  clear hb
  (try clear g)
  revert g1
  intro g
  go_wp2_with (with_reducible refine G.any_mark _ ?_; (try generalize Array.size (World.heap (G.w _)) = bk); (try dsimp only [List.set_cons_zero, List.set_cons_succ]); (try clear g); intro g)
  refine (CS.out _ _ _ _ _ _ (G.sl g (by simp) hst) (G.sl g (by simp) hsa)).mono ?_
  rintro e w1 ⟨rfl, hb⟩
  obtain ⟨g1, rfl⟩ := G.call_ex _ hb
  clear hb
  (try clear g)
  revert g1
  intro g
  go_wp2_with (with_reducible refine G.any_mark _ ?_; (try generalize Array.size (World.heap (G.w _)) = bk); (try dsimp only [List.set_cons_zero, List.set_cons_succ]); (try clear g); intro g)
  go_ret
  exact ⟨rfl, g.below⟩
end Go.Proofs.Ytfifcpgjcgoinaa
