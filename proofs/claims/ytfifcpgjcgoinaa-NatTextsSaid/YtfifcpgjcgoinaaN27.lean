/- Contracts of functions of the program, out of walks. Their conditions stand ahead of each. -/
import Derived.Test.YtfifcpgjcgoinaaN26
set_option linter.unusedVariables false
set_option linter.unusedSimpArgs false
set_option exponentiation.threshold 10000
namespace Go.Proofs.Ytfifcpgjcgoinaa
open Go.RowKit GW NL
theorem Cmp_ok (a b : Nat) (ha : a < 2 ^ 8192) (hb : b < 2 ^ 8192) (A1 A2 : Option Addr) (c1 c2 : Nat) (w : World) (h1 : SlW w A1 c1 (limbs a)) (h2 : SlW w A2 c2 (limbs b)) :
    Calls Try.prog 18 #[.slice A1 (limbs a).length c1, .slice A2 (limbs b).length c2] w fun e w' => e = .returned (.tuple #[.int .i64 (ord a b), .int .i64 0]) ∧ Below w.heap.size w w' := by
  have := Cmp_any A1 A2 c1 c2 (limbs a) (limbs b) w h1 h2
  have hx : chk2 (limbs a) (limbs b) = 0 := by unfold chk2; rw [chk_limbs ha, chk_limbs hb]; rfl
  rw [hx, val_limbs, val_limbs] at this
  unfold outC at this
  rwa [if_neg (by simp)] at this
theorem Div_zero_rv (a : Nat) (ha : a < 2 ^ 8192) (A1 A2 : Option Addr) (c1 c2 : Nat) (w : World) (h1 : SlW w A1 c1 (limbs a)) (h2 : SlW w A2 c2 []) :
    Calls Try.prog 16 #[.slice A1 (limbs a).length c1, .slice A2 0 c2] w fun e w' => ∃ A1 c1 F1 A2 c2 F2, e = .returned (.tuple #[.slice A1 0 c1, .slice A2 0 c2, .int .i64 6]) ∧ F1.Sl A1 c1 (limbs 0) ∧ F2.Sl A2 c2 (limbs 0) ∧ New w w' F1 ∧ New w w' F2 := by
  have hx : chk2 (limbs a) [] = 0 := by unfold chk2; rw [chk_limbs ha]; rfl
  have := Div_zero A1 A2 c1 c2 (limbs a) w h1 h2 hx
  unfold RNNE at this
  rwa [show (limbs 0).length = 0 by rw [limbs_zero]; rfl] at this
set_option maxRecDepth 20000 in
theorem divides_walk (A1 A2 : Option Addr) (c1 c2 : Nat) (l1 l2 : List Nat) (w : World) (h1 : SlW w A1 c1 l1) (h2 : SlW w A2 c2 l2) (hl1 : l1.length ≤ 35184372088832) (hl2 : l2.length ≤ 35184372088832) :
    Calls Try.prog 4 #[.slice A1 l1.length c1, .slice A2 l2.length c2] w fun e w' => e = .returned (.bool true) ∧ Below w.heap.size w w' := by
  refine calls_b fun g => ?_
  have CV1 := Lib.hid (fun w h => valid_any A1 c1 l1 60 w h hl1 (by omega))
  have CV2 := Lib.hid (fun w h => valid_any A2 c2 l2 60 w h hl2 (by omega))
  have b1 := cut_lt h1.ok 60
  have b2 := cut_lt h2.ok 60
  generalize cut l1 60 = a at *
  generalize cut l2 60 = b at *
  have CL := Lib.hid lives_any
  generalize hn1 : l1.length = n1 at *
  generalize hn2 : l2.length = n2 at *
  clear hn1 hn2
  by_cases h0 : b = 0
  · subst h0
    have CD := Lib.hid (Div_zero_rv a (pow_lt' b1 (by decide)))
    have hz : (limbs 0).length = 0 := by rw [limbs_zero]; rfl
    clear b1 b2 hl1 hl2
    go_enter Try.func4, Try.ntmps4
    go_wp2_with (with_reducible refine G.any_mark _ ?_; (try generalize Array.size (World.heap (G.w _)) = bk); (try dsimp only [List.set_cons_zero, List.set_cons_succ]); (try clear g); intro g)
    refine (CL.out _).mono ?_
    rintro e w1 ⟨rfl, hb⟩
    obtain ⟨g1, rfl⟩ := G.call_ex _ hb
    clear hb
    (try clear g)
    revert g1
    intro g
    go_wp2_with (with_reducible refine G.any_mark _ ?_; (try generalize Array.size (World.heap (G.w _)) = bk); (try dsimp only [List.set_cons_zero, List.set_cons_succ]); (try clear g); intro g)
    refine (CV1.out _ (G.sl g (by simp) h1)).mono ?_
    rintro e w1 ⟨Aa, ca, Fa, rfl, hsa, hn⟩
    have hnna := fun k o hk => Nat.le_trans g.chg.size (hn.new k o hk)
    obtain ⟨g1, rfl⟩ := G.new_ex _ hn
    clear hn
    (try clear g)
    revert g1
    intro g
    go_wp2_with (with_reducible refine G.any_mark _ ?_; (try generalize Array.size (World.heap (G.w _)) = bk); (try dsimp only [List.set_cons_zero, List.set_cons_succ]); (try clear g); intro g)
    refine (CV2.out _ (G.sl g (by simp) h2)).mono ?_
    rintro e w1 ⟨Ab, cb, Fb, rfl, hsb, hn⟩
    have hnnb := fun k o hk => Nat.le_trans g.chg.size (hn.new k o hk)
    obtain ⟨g1, rfl⟩ := G.new_ex _ hn
    clear hn
    (try clear g)
    revert g1
    intro g
    have hsb2 := hsb
    rw [limbs_zero] at hsb2
    go_wp2_with (with_reducible refine G.any_mark _ ?_; (try generalize Array.size (World.heap (G.w _)) = bk); (try dsimp only [List.set_cons_zero, List.set_cons_succ]); (try clear g); intro g)
    refine (CD.out _ _ _ _ _ (G.sl g (by simp) hsa) (G.sl g (by simp) hsb2)).mono ?_
    rintro e w1 ⟨Ax, cx, Fx, Bx, dx, Hx, rfl, hsx, htx, hn, hm⟩
    have hnnx := fun k o hk => Nat.le_trans g.chg.size (hn.new k o hk)
    have hmmx := fun k o hk => Nat.le_trans g.chg.size (hm.new k o hk)
    obtain ⟨g1, rfl⟩ := G.new2_ex _ hn hm
    clear hn hm
    (try clear g)
    revert g1
    intro g
    go_wp2_with (with_reducible refine G.any_mark _ ?_; (try generalize Array.size (World.heap (G.w _)) = bk); (try dsimp only [List.set_cons_zero, List.set_cons_succ]); (try clear g); intro g)
    go_ret
    exact ⟨rfl, g.below⟩
  · obtain ⟨q, hq⟩ : ∃ q, a / b = q := ⟨_, rfl⟩
    obtain ⟨r, hr⟩ : ∃ r, a % b = r := ⟨_, rfl⟩
    obtain ⟨p, hp⟩ : ∃ p, q * b = p := ⟨_, rfl⟩
    obtain ⟨m, hm⟩ : ∃ m, a * b = m := ⟨_, rfl⟩
    have hdm := Nat.div_add_mod a b
    rw [hq, hr, Nat.mul_comm, hp] at hdm
    have hrb : r < b := by rw [← hr]; exact Nat.mod_lt _ (Nat.pos_of_ne_zero h0)
    have hord : ord r b = -1 := by unfold ord; rw [if_pos hrb]
    have pm : m < 2 ^ 8192 := by rw [← hm]; exact pow_lt' (mul_lt' b1 b2) (by decide)
    have pa := pow_lt' b1 (by decide)
    have pb := pow_lt' b2 (by decide)
    have pq : q < 2 ^ 8192 := by rw [← hq]; exact Nat.lt_of_le_of_lt (Nat.div_le_self _ _) pa
    have pp : p < 2 ^ 8192 := Nat.lt_of_le_of_lt (by omega : p ≤ a) pa
    have pr : r < 2 ^ 8192 := Nat.lt_trans hrb pb
    have CD := Lib.hid (Div_rv a b q r hq hr pa pb h0)
    have CM := Lib.hid (Mul_rv q b p hp pq pb pp)
    have CA := Lib.hid (Add_rv p r a hdm pp pr pa)
    have CC := Lib.hid (Cmp_ok r b pr pb)
    rw [hord] at CC
    have CS := Lib.hid (same_rv a)
    have CM2 := Lib.hid (Mul_rv a b m hm pa pb pm)
    have CD2 := Lib.hid (Div_rv m b a 0 (by rw [← hm]; exact Nat.mul_div_cancel _ (Nat.pos_of_ne_zero h0)) (by rw [← hm]; exact Nat.mul_mod_left _ _) pm pb h0)
    have hz : (limbs 0).length = 0 := by rw [limbs_zero]; rfl
    have hlb := len_ne h0
    have hne : (((limbs b).length : Int) == 0) = false := by rw [beq_eq_false_iff_ne]; omega
    clear b1 b2 hl1 hl2 hq hr hp hm hdm hrb hord pm pa pb pq pp pr h0 hlb
    go_enter Try.func4, Try.ntmps4
    go_wp2_with (with_reducible refine G.any_mark _ ?_; (try generalize Array.size (World.heap (G.w _)) = bk); (try dsimp only [List.set_cons_zero, List.set_cons_succ]); (try clear g); intro g)
    refine (CL.out _).mono ?_
    rintro e w1 ⟨rfl, hb⟩
    obtain ⟨g1, rfl⟩ := G.call_ex _ hb
    clear hb
    (try clear g)
    revert g1
    intro g
    go_wp2_with (with_reducible refine G.any_mark _ ?_; (try generalize Array.size (World.heap (G.w _)) = bk); (try dsimp only [List.set_cons_zero, List.set_cons_succ]); (try clear g); intro g)
    refine (CV1.out _ (G.sl g (by simp) h1)).mono ?_
    rintro e w1 ⟨Aa, ca, Fa, rfl, hsa, hn⟩
    have hnna := fun k o hk => Nat.le_trans g.chg.size (hn.new k o hk)
    obtain ⟨g1, rfl⟩ := G.new_ex _ hn
    clear hn
    (try clear g)
    revert g1
    intro g
    go_wp2_with (with_reducible refine G.any_mark _ ?_; (try generalize Array.size (World.heap (G.w _)) = bk); (try dsimp only [List.set_cons_zero, List.set_cons_succ]); (try clear g); intro g)
    refine (CV2.out _ (G.sl g (by simp) h2)).mono ?_
    rintro e w1 ⟨Ab, cb, Fb, rfl, hsb, hn⟩
    have hnnb := fun k o hk => Nat.le_trans g.chg.size (hn.new k o hk)
    obtain ⟨g1, rfl⟩ := G.new_ex _ hn
    clear hn
    (try clear g)
    revert g1
    intro g
    go_wp2_with (with_reducible refine G.any_mark _ ?_; (try generalize Array.size (World.heap (G.w _)) = bk); (try dsimp only [List.set_cons_zero, List.set_cons_succ]); (try clear g); intro g)
    refine (CD.out _ _ _ _ _ (G.sl g (by simp) hsa) (G.sl g (by simp) hsb)).mono ?_
    rintro e w1 ⟨Ax, cx, Fx, Bx, dx, Hx, rfl, hsx, htx, hn, hm⟩
    have hnnx := fun k o hk => Nat.le_trans g.chg.size (hn.new k o hk)
    have hmmx := fun k o hk => Nat.le_trans g.chg.size (hm.new k o hk)
    obtain ⟨g1, rfl⟩ := G.new2_ex _ hn hm
    clear hn hm
    (try clear g)
    revert g1
    intro g
    go_wp2_with (with_reducible refine G.any_mark _ ?_; (try generalize Array.size (World.heap (G.w _)) = bk); (try dsimp only [List.set_cons_zero, List.set_cons_succ]); (try clear g); intro g)
    refine (CM.out _ _ _ _ _ (G.sl g (by simp) hsx) (G.sl g (by simp) hsb)).mono ?_
    rintro e w1 ⟨Ap, cp, Fp, rfl, hsp, hn⟩
    have hnnp := fun k o hk => Nat.le_trans g.chg.size (hn.new k o hk)
    obtain ⟨g1, rfl⟩ := G.new_ex _ hn
    clear hn
    (try clear g)
    revert g1
    intro g
    go_wp2_with (with_reducible refine G.any_mark _ ?_; (try generalize Array.size (World.heap (G.w _)) = bk); (try dsimp only [List.set_cons_zero, List.set_cons_succ]); (try clear g); intro g)
    refine (CA.out _ _ _ _ _ (G.sl g (by simp) hsp) (G.sl g (by simp) htx)).mono ?_
    rintro e w1 ⟨As, cs, Fs, rfl, hss, hn⟩
    have hnns := fun k o hk => Nat.le_trans g.chg.size (hn.new k o hk)
    obtain ⟨g1, rfl⟩ := G.new_ex _ hn
    clear hn
    (try clear g)
    revert g1
    intro g
    go_wp2_with (with_reducible refine G.any_mark _ ?_; (try generalize Array.size (World.heap (G.w _)) = bk); (try dsimp only [List.set_cons_zero, List.set_cons_succ]); (try clear g); intro g)
    refine (CC.out _ _ _ _ _ (G.sl g (by simp) htx) (G.sl g (by simp) hsb)).mono ?_
    rintro e w1 ⟨rfl, hb⟩
    obtain ⟨g1, rfl⟩ := G.call_ex _ hb
    clear hb
    (try clear g)
    revert g1
    intro g
    go_wp2_with (with_reducible refine G.any_mark _ ?_; (try generalize Array.size (World.heap (G.w _)) = bk); (try dsimp only [List.set_cons_zero, List.set_cons_succ]); (try clear g); intro g)
    refine (CS.out _ _ _ _ _ (G.sl g (by simp) hss) (G.sl g (by simp) hsa)).mono ?_
    rintro e w1 ⟨rfl, hb⟩
    obtain ⟨g1, rfl⟩ := G.call_ex _ hb
    clear hb
    (try clear g)
    revert g1
    intro g
    go_wp2_with (with_reducible refine G.any_mark _ ?_; (try generalize Array.size (World.heap (G.w _)) = bk); (try dsimp only [List.set_cons_zero, List.set_cons_succ]); (try clear g); intro g)
    refine (CM2.out _ _ _ _ _ (G.sl g (by simp) hsa) (G.sl g (by simp) hsb)).mono ?_
    rintro e w1 ⟨Am, cm, Fm, rfl, hsm, hn⟩
    have hnnm := fun k o hk => Nat.le_trans g.chg.size (hn.new k o hk)
    obtain ⟨g1, rfl⟩ := G.new_ex _ hn
    clear hn
    (try clear g)
    revert g1
    intro g
    go_wp2_with (with_reducible refine G.any_mark _ ?_; (try generalize Array.size (World.heap (G.w _)) = bk); (try dsimp only [List.set_cons_zero, List.set_cons_succ]); (try clear g); intro g)
    refine (CD2.out _ _ _ _ _ (G.sl g (by simp) hsm) (G.sl g (by simp) hsb)).mono ?_
    rintro e w1 ⟨Ay, cy, Fy, By, dy, Hy, rfl, hsy, hty, hn, hm⟩
    have hnny := fun k o hk => Nat.le_trans g.chg.size (hn.new k o hk)
    have hmmy := fun k o hk => Nat.le_trans g.chg.size (hm.new k o hk)
    obtain ⟨g1, rfl⟩ := G.new2_ex _ hn hm
    clear hn hm
    (try clear g)
    revert g1
    intro g
    go_wp2_with (with_reducible refine G.any_mark _ ?_; (try generalize Array.size (World.heap (G.w _)) = bk); (try dsimp only [List.set_cons_zero, List.set_cons_succ]); (try clear g); intro g)
    refine (CS.out _ _ _ _ _ (G.sl g (by simp) hsy) (G.sl g (by simp) hsa)).mono ?_
    rintro e w1 ⟨rfl, hb⟩
    obtain ⟨g1, rfl⟩ := G.call_ex _ hb
    clear hb
    (try clear g)
    revert g1
    intro g
    go_wp2_with (with_reducible refine G.any_mark _ ?_; (try generalize Array.size (World.heap (G.w _)) = bk); (try dsimp only [List.set_cons_zero, List.set_cons_succ]); (try clear g); intro g)
    go_ret
    exact ⟨rfl, g.below⟩
end Go.Proofs.Ytfifcpgjcgoinaa
