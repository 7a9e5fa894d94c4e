/- Contracts of functions of the program, out of walks. Their conditions stand ahead of each. -/
import Derived.Test.YtfifcpgjcgoinaaN25
set_option linter.unusedVariables false
set_option linter.unusedSimpArgs false
set_option exponentiation.threshold 10000
namespace Go.Proofs.Ytfifcpgjcgoinaa
open Go.RowKit GW NL
/-- a number without an error -/
def RV (v : Nat) (w : World) (e : Ending) (w' : World) : Prop := ∃ A c F, e = .returned (.tuple #[.slice A (limbs v).length c, .int .i64 0]) ∧ F.Sl A c (limbs v) ∧ New w w' F
/-- two numbers without an error -/
def RV2 (q r : Nat) (w : World) (e : Ending) (w' : World) : Prop := ∃ A1 c1 F1 A2 c2 F2, e = .returned (.tuple #[.slice A1 (limbs q).length c1, .slice A2 (limbs r).length c2, .int .i64 0]) ∧ F1.Sl A1 c1 (limbs q) ∧ F2.Sl A2 c2 (limbs r) ∧ New w w' F1 ∧ New w w' F2
theorem Mul_rv (a b p : Nat) (hp : a * b = p) (ha : a < 2 ^ 8192) (hb : b < 2 ^ 8192) (hpb : p < 2 ^ 8192) (A1 A2 : Option Addr) (c1 c2 : Nat) (w : World) (h1 : SlW w A1 c1 (limbs a)) (h2 : SlW w A2 c2 (limbs b)) :
    Calls Try.prog 14 #[.slice A1 (limbs a).length c1, .slice A2 (limbs b).length c2] w (RV p w) := by
  subst hp; exact Mul_ok A1 A2 c1 c2 a b w h1 h2 ha hb hpb
theorem Add_rv (a b p : Nat) (hp : a + b = p) (ha : a < 2 ^ 8192) (hb : b < 2 ^ 8192) (hpb : p < 2 ^ 8192) (A1 A2 : Option Addr) (c1 c2 : Nat) (w : World) (h1 : SlW w A1 c1 (limbs a)) (h2 : SlW w A2 c2 (limbs b)) :
    Calls Try.prog 17 #[.slice A1 (limbs a).length c1, .slice A2 (limbs b).length c2] w (RV p w) := by
  subst hp; exact Add_ok A1 A2 c1 c2 a b w h1 h2 ha hb hpb
theorem Gcd_rv (a b p : Nat) (hp : Nat.gcd a b = p) (ha : a < 2 ^ 8192) (hb : b < 2 ^ 8192) (A1 A2 : Option Addr) (c1 c2 : Nat) (w : World) (h1 : SlW w A1 c1 (limbs a)) (h2 : SlW w A2 c2 (limbs b)) :
    Calls Try.prog 13 #[.slice A1 (limbs a).length c1, .slice A2 (limbs b).length c2] w (RV p w) := by
  subst hp; exact Gcd_ok A1 A2 c1 c2 a b w h1 h2 ha hb
theorem Div_rv (a b q r : Nat) (hq : a / b = q) (hr : a % b = r) (ha : a < 2 ^ 8192) (hb : b < 2 ^ 8192) (h0 : b ≠ 0) (A1 A2 : Option Addr) (c1 c2 : Nat) (w : World) (h1 : SlW w A1 c1 (limbs a)) (h2 : SlW w A2 c2 (limbs b)) :
    Calls Try.prog 16 #[.slice A1 (limbs a).length c1, .slice A2 (limbs b).length c2] w (RV2 q r w) := by
  subst hq hr; exact Div_ok A1 A2 c1 c2 a b w h1 h2 ha hb h0
theorem same_rv (v : Nat) (A1 A2 : Option Addr) (c1 c2 : Nat) (w : World) (h1 : SlW w A1 c1 (limbs v)) (h2 : SlW w A2 c2 (limbs v)) :
    Calls Try.prog 15 #[.slice A1 (limbs v).length c1, .slice A2 (limbs v).length c2] w fun e w' => e = .returned (.bool true) ∧ Below w.heap.size w w' := same_any A1 A2 c1 c2 (limbs v) w h1 h2
theorem cut_lt {l : List Nat} (h : Ok l) (m : Nat) : cut l m < 2 ^ (32 * m) := by
  have h1 := val_lt (h.take m)
  have h2 : 4294967296 ^ (l.take m).length ≤ 4294967296 ^ m := Nat.pow_le_pow_right (by decide) (by rw [List.length_take]; omega)
  rw [pow32 m] at h2
  unfold cut
  omega
theorem pow_lt' {a k : Nat} (h : a < 2 ^ k) (hk : k ≤ 8192) : a < 2 ^ 8192 := Nat.lt_of_lt_of_le h (Nat.pow_le_pow_right (by decide) hk)
theorem mul_lt' {a b i j : Nat} (h1 : a < 2 ^ i) (h2 : b < 2 ^ j) : a * b < 2 ^ (i + j) := by
  rw [Nat.pow_add]
  exact Nat.mul_lt_mul_of_lt_of_le h1 (Nat.le_of_lt h2) (Nat.two_pow_pos j)
theorem len_ne {v : Nat} (h : v ≠ 0) : 0 < (limbs v).length := by
  rcases Nat.eq_zero_or_pos (limbs v).length with h1 | h1
  · exact absurd (limbs_nil.1 (List.eq_nil_of_length_eq_zero h1)) h
  · exact h1
set_option maxRecDepth 20000 in
theorem common_walk (A1 A2 A3 : Option Addr) (c1 c2 c3 : Nat) (l1 l2 l3 : List Nat) (w : World) (h1 : SlW w A1 c1 l1) (h2 : SlW w A2 c2 l2) (h3 : SlW w A3 c3 l3) (hl1 : l1.length ≤ 35184372088832) (hl2 : l2.length ≤ 35184372088832) (hl3 : l3.length ≤ 35184372088832) :
    Calls Try.prog 3 #[.slice A1 l1.length c1, .slice A2 l2.length c2, .slice A3 l3.length c3] w fun e w' => e = .returned (.bool true) ∧ Below w.heap.size w w' := by
  refine calls_b fun g => ?_
  have CV1 := Lib.hid (fun w h => valid_any A1 c1 l1 12 w h hl1 (by omega))
  have CV2 := Lib.hid (fun w h => valid_any A2 c2 l2 12 w h hl2 (by omega))
  have CV3 := Lib.hid (fun w h => valid_any A3 c3 l3 12 w h hl3 (by omega))
  have b1 := cut_lt h1.ok 12
  have b2 := cut_lt h2.ok 12
  have b3 := cut_lt h3.ok 12
  generalize cut l1 12 = a at *
  generalize cut l2 12 = b at *
  generalize cut l3 12 = c at *
  obtain ⟨gd, hG⟩ : ∃ gd, Nat.gcd a b = gd := ⟨_, rfl⟩
  obtain ⟨P1, hP1⟩ : ∃ P, a * c = P := ⟨_, rfl⟩
  obtain ⟨P2, hP2⟩ : ∃ P, b * c = P := ⟨_, rfl⟩
  obtain ⟨P3, hP3⟩ : ∃ P, gd * c = P := ⟨_, rfl⟩
  have hG2 : Nat.gcd b a = gd := by rw [Nat.gcd_comm]; exact hG
  have hG3 : Nat.gcd P1 P2 = P3 := by rw [← hP1, ← hP2, ← hP3, ← hG, Nat.gcd_mul_right]
  have bG : gd < 2 ^ 384 := by
    by_cases h0 : a = 0
    · subst h0; rw [Nat.gcd_zero_left] at hG; subst hG; exact b2
    · have := Nat.gcd_le_left b (Nat.pos_of_ne_zero h0)
      rw [hG] at this
      exact Nat.lt_of_le_of_lt this b1
  have p1 : P1 < 2 ^ 8192 := by rw [← hP1]; exact pow_lt' (mul_lt' b1 b3) (by decide)
  have p2 : P2 < 2 ^ 8192 := by rw [← hP2]; exact pow_lt' (mul_lt' b2 b3) (by decide)
  have p3 : P3 < 2 ^ 8192 := by rw [← hP3]; exact pow_lt' (mul_lt' bG b3) (by decide)
  have b1 := pow_lt' b1 (by decide)
  have b2 := pow_lt' b2 (by decide)
  have b3 := pow_lt' b3 (by decide)
  have bG := pow_lt' bG (by decide)
  have CG1 := Lib.hid (Gcd_rv a b gd hG b1 b2)
  have CG2 := Lib.hid (Gcd_rv b a gd hG2 b2 b1)
  have CM1 := Lib.hid (Mul_rv a c P1 hP1 b1 b3 p1)
  have CM2 := Lib.hid (Mul_rv b c P2 hP2 b2 b3 p2)
  have CM3 := Lib.hid (Mul_rv gd c P3 hP3 bG b3 p3)
  have CG3 := Lib.hid (Gcd_rv P1 P2 P3 hG3 p1 p2)
  have CS1 := Lib.hid (same_rv gd)
  have CS2 := Lib.hid (same_rv P3)
  have CL := Lib.hid lives_any
  have HAB : Hid (a = 0 ∧ b = 0 → gd = 0) := Lib.hid (by rintro ⟨rfl, rfl⟩; rw [← hG]; rfl)
  have HDV : Hid (¬ (a = 0 ∧ b = 0) → ∃ x y, a / gd = x ∧ a % gd = 0 ∧ b / gd = y ∧ b % gd = 0 ∧ gd ≠ 0 ∧ Nat.gcd x y = 1 ∧ x < 2 ^ 8192 ∧ y < 2 ^ 8192) := Lib.hid (by
    intro hne
    have hG0 : 0 < gd := by
      rw [← hG]
      rcases Nat.eq_zero_or_pos a with h | h
      · exact Nat.gcd_pos_of_pos_right _ (Nat.pos_of_ne_zero fun hb => hne ⟨h, hb⟩)
      · exact Nat.gcd_pos_of_pos_left _ h
    have d1 : gd ∣ a := by rw [← hG]; exact Nat.gcd_dvd_left a b
    have d2 : gd ∣ b := by rw [← hG]; exact Nat.gcd_dvd_right a b
    refine ⟨a / gd, b / gd, rfl, Nat.mod_eq_zero_of_dvd d1, rfl, Nat.mod_eq_zero_of_dvd d2, by omega, ?_, Nat.lt_of_le_of_lt (Nat.div_le_self _ _) b1, Nat.lt_of_le_of_lt (Nat.div_le_self _ _) b2⟩
    have := Nat.gcd_div d1 d2
    rw [hG, Nat.div_self hG0] at this
    exact this)
  have HB : Hid (a < 2 ^ 8192 ∧ b < 2 ^ 8192 ∧ gd < 2 ^ 8192) := Lib.hid ⟨b1, b2, bG⟩
  clear hG hP1 hP2 hP3 hG2 hG3 b1 b2 b3 bG p1 p2 p3 hl1 hl2 hl3
  generalize hn1 : l1.length = n1 at *
  generalize hn2 : l2.length = n2 at *
  generalize hn3 : l3.length = n3 at *
  clear hn1 hn2 hn3
  go_enter Try.func3, Try.ntmps3
  go_wp2_with (with_reducible refine G.any_mark _ ?_; (try generalize Array.size (World.heap (G.w _)) = bk); (try dsimp only [List.set_cons_zero, List.set_cons_succ]); (try clear g); intro g)
  refine (CL.out _).mono ?_
  rintro e w1 ⟨rfl, hb⟩
  obtain ⟨g1, rfl⟩ := G.call_ex _ hb
  clear hb
  (try clear g)
  revert g1
  intro g
  go_wp2_with (with_reducible refine G.any_mark _ ?_; (try generalize Array.size (World.heap (G.w _)) = bk); (try dsimp only [List.set_cons_zero, List.set_cons_succ]); (try clear g); intro g)
  refine (CV1.out _ (G.sl g (by simp) h1)).mono ?_
  rintro e w1 ⟨Aa, ca, Fa, rfl, hsa, hn⟩
  have hnna := fun k o hk => Nat.le_trans g.chg.size (hn.new k o hk)
  obtain ⟨g1, rfl⟩ := G.new_ex _ hn
  clear hn
  (try clear g)
  revert g1
  intro g
  go_wp2_with (with_reducible refine G.any_mark _ ?_; (try generalize Array.size (World.heap (G.w _)) = bk); (try dsimp only [List.set_cons_zero, List.set_cons_succ]); (try clear g); intro g)
  refine (CV2.out _ (G.sl g (by simp) h2)).mono ?_
  rintro e w1 ⟨Ab, cb, Fb, rfl, hsb, hn⟩
  have hnnb := fun k o hk => Nat.le_trans g.chg.size (hn.new k o hk)
  obtain ⟨g1, rfl⟩ := G.new_ex _ hn
  clear hn
  (try clear g)
  revert g1
  intro g
  go_wp2_with (with_reducible refine G.any_mark _ ?_; (try generalize Array.size (World.heap (G.w _)) = bk); (try dsimp only [List.set_cons_zero, List.set_cons_succ]); (try clear g); intro g)
  refine (CV3.out _ (G.sl g (by simp) h3)).mono ?_
  rintro e w1 ⟨Ac, cc, Fc, rfl, hsc, hn⟩
  have hnnc := fun k o hk => Nat.le_trans g.chg.size (hn.new k o hk)
  obtain ⟨g1, rfl⟩ := G.new_ex _ hn
  clear hn
  (try clear g)
  revert g1
  intro g
  go_wp2_with (with_reducible refine G.any_mark _ ?_; (try generalize Array.size (World.heap (G.w _)) = bk); (try dsimp only [List.set_cons_zero, List.set_cons_succ]); (try clear g); intro g)
  refine (CG1.out _ _ _ _ _ (G.sl g (by simp) hsa) (G.sl g (by simp) hsb)).mono ?_
  rintro e w1 ⟨Ag, cg, Fg, rfl, hsg, hn⟩
  have hnng := fun k o hk => Nat.le_trans g.chg.size (hn.new k o hk)
  obtain ⟨g1, rfl⟩ := G.new_ex _ hn
  clear hn
  (try clear g)
  revert g1
  intro g
  go_wp2_with (with_reducible refine G.any_mark _ ?_; (try generalize Array.size (World.heap (G.w _)) = bk); (try dsimp only [List.set_cons_zero, List.set_cons_succ]); (try clear g); intro g)
  refine (CG2.out _ _ _ _ _ (G.sl g (by simp) hsb) (G.sl g (by simp) hsa)).mono ?_
  rintro e w1 ⟨Ah, ch, Fh, rfl, hsh, hn⟩
  have hnnh := fun k o hk => Nat.le_trans g.chg.size (hn.new k o hk)
  obtain ⟨g1, rfl⟩ := G.new_ex _ hn
  clear hn
  (try clear g)
  revert g1
  intro g
  go_wp2_with (with_reducible refine G.any_mark _ ?_; (try generalize Array.size (World.heap (G.w _)) = bk); (try dsimp only [List.set_cons_zero, List.set_cons_succ]); (try clear g); intro g)
  refine (CM1.out _ _ _ _ _ (G.sl g (by simp) hsa) (G.sl g (by simp) hsc)).mono ?_
  rintro e w1 ⟨Ap, cp, Fp, rfl, hsp, hn⟩
  have hnnp := fun k o hk => Nat.le_trans g.chg.size (hn.new k o hk)
  obtain ⟨g1, rfl⟩ := G.new_ex _ hn
  clear hn
  (try clear g)
  revert g1
  intro g
  go_wp2_with (with_reducible refine G.any_mark _ ?_; (try generalize Array.size (World.heap (G.w _)) = bk); (try dsimp only [List.set_cons_zero, List.set_cons_succ]); (try clear g); intro g)
  refine (CM2.out _ _ _ _ _ (G.sl g (by simp) hsb) (G.sl g (by simp) hsc)).mono ?_
  rintro e w1 ⟨Aq, cq, Fq, rfl, hsq, hn⟩
  have hnnq := fun k o hk => Nat.le_trans g.chg.size (hn.new k o hk)
  obtain ⟨g1, rfl⟩ := G.new_ex _ hn
  clear hn
  (try clear g)
  revert g1
  intro g
  go_wp2_with (with_reducible refine G.any_mark _ ?_; (try generalize Array.size (World.heap (G.w _)) = bk); (try dsimp only [List.set_cons_zero, List.set_cons_succ]); (try clear g); intro g)
  refine (CM3.out _ _ _ _ _ (G.sl g (by simp) hsg) (G.sl g (by simp) hsc)).mono ?_
  rintro e w1 ⟨Ar, cr, Fr, rfl, hsr, hn⟩
  have hnnr := fun k o hk => Nat.le_trans g.chg.size (hn.new k o hk)
  obtain ⟨g1, rfl⟩ := G.new_ex _ hn
  clear hn
  (try clear g)
  revert g1
  intro g
  go_wp2_with (with_reducible refine G.any_mark _ ?_; (try generalize Array.size (World.heap (G.w _)) = bk); (try dsimp only [List.set_cons_zero, List.set_cons_succ]); (try clear g); intro g)
  refine (CG3.out _ _ _ _ _ (G.sl g (by simp) hsp) (G.sl g (by simp) hsq)).mono ?_
  rintro e w1 ⟨As, cs, Fs, rfl, hss, hn⟩
  have hnns := fun k o hk => Nat.le_trans g.chg.size (hn.new k o hk)
  obtain ⟨g1, rfl⟩ := G.new_ex _ hn
  clear hn
  (try clear g)
  revert g1
  intro g
  go_wp2_with (with_reducible refine G.any_mark _ ?_; (try generalize Array.size (World.heap (G.w _)) = bk); (try dsimp only [List.set_cons_zero, List.set_cons_succ]); (try clear g); intro g)
  refine (CS1.out _ _ _ _ _ (G.sl g (by simp) hsg) (G.sl g (by simp) hsh)).mono ?_
  rintro e w1 ⟨rfl, hb⟩
  obtain ⟨g1, rfl⟩ := G.call_ex _ hb
  clear hb
  (try clear g)
  revert g1
  intro g
  go_wp2_with (with_reducible refine G.any_mark _ ?_; (try generalize Array.size (World.heap (G.w _)) = bk); (try dsimp only [List.set_cons_zero, List.set_cons_succ]); (try clear g); intro g)
  refine (CS2.out _ _ _ _ _ (G.sl g (by simp) hss) (G.sl g (by simp) hsr)).mono ?_
  rintro e w1 ⟨rfl, hb⟩
  obtain ⟨g1, rfl⟩ := G.call_ex _ hb
  clear hb
  (try clear g)
  revert g1
  intro g
  have hz : (limbs 0).length = 0 := by rw [limbs_zero]; rfl
  by_cases h0 : a = 0 ∧ b = 0
  · have hg0 := HAB.out h0
    obtain ⟨rfl, rfl⟩ := h0
    subst hg0
    clear CV1 CV2 CV3 CG1 CG2 CM1 CM2 CM3 CG3 CS1 CS2
    go_wp2_with (with_reducible refine G.any_mark _ ?_; (try generalize Array.size (World.heap (G.w _)) = bk); (try dsimp only [List.set_cons_zero, List.set_cons_succ]); (try clear g); intro g)
    go_ret
    exact ⟨rfl, g.below⟩
  · obtain ⟨x, y, d1, d2, d3, d4, d5, d6, d7, d8⟩ := HDV.out h0
    obtain ⟨ns, hns⟩ : ∃ ns, (limbs a).length + (limbs b).length = ns := ⟨_, rfl⟩
    have hns0 : ns ≠ 0 := by
      intro e
      exact h0 ⟨limbs_nil.1 (List.eq_nil_of_length_eq_zero (by omega)), limbs_nil.1 (List.eq_nil_of_length_eq_zero (by omega))⟩
    have hla : (limbs a).length ≤ 256 := (limbs_len a 256).2 (by rw [pow32]; exact HB.out.1)
    have hlb : (limbs b).length ≤ 256 := (limbs_len b 256).2 (by rw [pow32]; exact HB.out.2.1)
    have hsum : ((limbs a).length : Int) + ((limbs b).length : Int) = (ns : Int) := by omega
    have hwn : IntKind.i64.wrap (ns : Int) = (ns : Int) := by rw [IntKind.wrap_i64]; omega
    have hne : ((ns : Int) == 0) = false := by rw [beq_eq_false_iff_ne]; omega
    have CD1 := Lib.hid (Div_rv a gd x 0 d1 d2 HB.out.1 HB.out.2.2 d5)
    have CD2 := Lib.hid (Div_rv b gd y 0 d3 d4 HB.out.2.1 HB.out.2.2 d5)
    have CG4 := Lib.hid (Gcd_rv x y 1 d6 d7 d8)
    have e1 : limbs 1 = [1] := lim1 (by decide) (by decide)
    have CS3 : Hid (∀ (A1 A2 : Option Addr) (c1 c2 : Nat) (w : World), SlW w A1 c1 (limbs 1) → SlW w A2 c2 (limbs 1) → Calls Try.prog 15 #[.slice A1 1 c1, .slice A2 1 c2] w fun e w' => e = .returned (.bool true) ∧ Below w.heap.size w w') := Lib.hid (fun A1 A2 c1 c2 w h1 h2 => by
      have := same_rv 1 A1 A2 c1 c2 w h1 h2
      rwa [show (limbs 1).length = 1 by rw [e1]; rfl] at this)
    have n1' : Hid ((limbs 1).length = 1 ∧ [Value.int .u32 1] = u32s (limbs 1)) := Lib.hid ⟨by rw [e1]; rfl, by rw [e1]; rfl⟩
    have hL1 : (limbs 1).length = 1 := by rw [e1]; rfl
    clear CV1 CV2 CV3 CG1 CG2 CM1 CM2 CM3 CG3 CS1 CS2 h0 d1 d2 d3 d4 d5 d6 d7 d8 HAB HDV e1 hns hns0 hla hlb
    go_wp2_with (with_reducible refine G.any_mark _ ?_; (try generalize Array.size (World.heap (G.w _)) = bk); (try dsimp only [List.set_cons_zero, List.set_cons_succ]); (try clear g); intro g)
    refine (CD1.out _ _ _ _ _ (G.sl g (by simp) hsa) (G.sl g (by simp) hsg)).mono ?_
    rintro e w1 ⟨Ax, cx, Fx, Bx, dx, Hx, rfl, hsx, htx, hn, hm⟩
    have hnnx := fun k o hk => Nat.le_trans g.chg.size (hn.new k o hk)
    have hmmx := fun k o hk => Nat.le_trans g.chg.size (hm.new k o hk)
    obtain ⟨g1, rfl⟩ := G.new2_ex _ hn hm
    clear hn hm
    (try clear g)
    revert g1
    intro g
    go_wp2_with (with_reducible refine G.any_mark _ ?_; (try generalize Array.size (World.heap (G.w _)) = bk); (try dsimp only [List.set_cons_zero, List.set_cons_succ]); (try clear g); intro g)
    refine (CD2.out _ _ _ _ _ (G.sl g (by simp) hsb) (G.sl g (by simp) hsg)).mono ?_
    rintro e w1 ⟨Ay, cy, Fy, By, dy, Hy, rfl, hsy, hty, hn, hm⟩
    have hnny := fun k o hk => Nat.le_trans g.chg.size (hn.new k o hk)
    have hmmy := fun k o hk => Nat.le_trans g.chg.size (hm.new k o hk)
    obtain ⟨g1, rfl⟩ := G.new2_ex _ hn hm
    clear hn hm
    (try clear g)
    revert g1
    intro g
    go_wp2_with (with_reducible refine G.any_mark _ ?_; (try generalize Array.size (World.heap (G.w _)) = bk); (try dsimp only [List.set_cons_zero, List.set_cons_succ]); (try clear g); intro g)
    refine (CG4.out _ _ _ _ _ (G.sl g (by simp) hsx) (G.sl g (by simp) hsy)).mono ?_
    rintro e w1 ⟨Ao, co, Fo, rfl, hso, hn⟩
    have hnno := fun k o hk => Nat.le_trans g.chg.size (hn.new k o hk)
    obtain ⟨g1, rfl⟩ := G.new_ex _ hn
    clear hn
    (try clear g)
    revert g1
    intro g
    go_wp2_with (with_reducible refine G.any_mark _ ?_; (try generalize Array.size (World.heap (G.w _)) = bk); (try dsimp only [List.set_cons_zero, List.set_cons_succ]); (try clear g); intro g)
    refine (CS3.out _ _ _ _ _ (G.sl g (by simp) hso) (G.lit0 g _ _ n1'.out.2 n1'.out.1 (by decide))).mono ?_
    rintro e w1 ⟨rfl, hb⟩
    obtain ⟨g1, rfl⟩ := G.call_ex _ hb
    clear hb
    (try clear g)
    revert g1
    intro g
    go_wp2_with (with_reducible refine G.any_mark _ ?_; (try generalize Array.size (World.heap (G.w _)) = bk); (try dsimp only [List.set_cons_zero, List.set_cons_succ]); (try clear g); intro g)
    go_ret
    exact ⟨rfl, g.below⟩
end Go.Proofs.Ytfifcpgjcgoinaa
