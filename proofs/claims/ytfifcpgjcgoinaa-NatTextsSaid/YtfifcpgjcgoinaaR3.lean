/- Contracts of functions of the program, out of walks. Their conditions stand ahead of each. -/
import Derived.Test.YtfifcpgjcgoinaaR2
set_option linter.unusedVariables false
set_option linter.unusedSimpArgs false
set_option exponentiation.threshold 10000
namespace Go.Proofs.Ytfifcpgjcgoinaa
open Go.RowKit GW NL
theorem rShift_err (A : Option Addr) (c : Nat) (l : List Nat) (n : Int) (w : World) (h : SlW w A c l) (hx : chk l ≠ 0) :
    Calls Try.prog 37 #[.slice A l.length c, .int .i64 n] w (RNE (0, chk l) w) := by
  refine calls_b fun g => ?_
  have C1 := Lib.hid (fun w h => rcheck_any A c l w h)
  have hx' : (chk l == 0) = false := by simpa using hx
  clear hx
  generalize chk l = r at *
  generalize l.length = k at *
  go_enter Try.func37, Try.ntmps37
  go_wp2_with (with_reducible refine G.any_mark _ ?_; (try generalize Array.size (World.heap (G.w _)) = bk); (try dsimp only [List.set_cons_zero, List.set_cons_succ]); (try clear g); intro g)
  refine (C1.out _ (G.sl g (by simp) h)).mono ?_
  rintro e w1 ⟨rfl, hb⟩
  obtain ⟨g1, rfl⟩ := G.call_ex _ hb
  clear hb
  (try clear g)
  revert g1
  intro g
  go_wp2_with (with_reducible refine G.any_mark _ ?_; (try generalize Array.size (World.heap (G.w _)) = bk); (try dsimp only [List.set_cons_zero, List.set_cons_succ]); (try clear g); intro g)
  go_ret2
  exact rne_err g r
theorem rShift_range (A : Option Addr) (c : Nat) (l : List Nat) (n : Int) (w : World) (h : SlW w A c l) (hx : chk l = 0) (hn : n < -10000 ∨ 10000 < n) :
    Calls Try.prog 37 #[.slice A l.length c, .int .i64 n] w (RNE (0, 2) w) := by
  refine calls_b fun g => ?_
  have C1 := Lib.hid (fun w h => rcheck_any A c l w h)
  rw [hx] at C1
  clear hx
  generalize l.length = k at *
  rcases Decidable.em (n < -10000) with h1 | h1
  · clear hn
    have h1' : decide (n < -10000) = true := decide_eq_true h1
    clear h1
    go_enter Try.func37, Try.ntmps37
    go_wp2_with (with_reducible refine G.any_mark _ ?_; (try generalize Array.size (World.heap (G.w _)) = bk); (try dsimp only [List.set_cons_zero, List.set_cons_succ]); (try clear g); intro g)
    refine (C1.out _ (G.sl g (by simp) h)).mono ?_
    rintro e w1 ⟨rfl, hb⟩
    obtain ⟨g1, rfl⟩ := G.call_ex _ hb
    clear hb
    (try clear g)
    revert g1
    intro g
    go_wp2_with (with_reducible refine G.any_mark _ ?_; (try generalize Array.size (World.heap (G.w _)) = bk); (try dsimp only [List.set_cons_zero, List.set_cons_succ]); (try clear g); intro g)
    go_ret2
    exact rne_err g 2
  · have h2 : 10000 < n := by omega
    have h1' : decide (n < -10000) = false := decide_eq_false h1
    clear h1 hn
    go_enter Try.func37, Try.ntmps37
    go_wp2_with (with_reducible refine G.any_mark _ ?_; (try generalize Array.size (World.heap (G.w _)) = bk); (try dsimp only [List.set_cons_zero, List.set_cons_succ]); (try clear g); intro g)
    refine (C1.out _ (G.sl g (by simp) h)).mono ?_
    rintro e w1 ⟨rfl, hb⟩
    obtain ⟨g1, rfl⟩ := G.call_ex _ hb
    clear hb
    (try clear g)
    revert g1
    intro g
    go_wp2_with (with_reducible refine G.any_mark _ ?_; (try generalize Array.size (World.heap (G.w _)) = bk); (try dsimp only [List.set_cons_zero, List.set_cons_succ]); (try clear g); intro g)
    go_ret2
    exact rne_err g 2
theorem rShift_core (A : Option Addr) (c v : Nat) (n : Int) (R : Nat) (w : World) (h : SlW w A c (limbs v)) (hv : v < 2 ^ 8192) (hn1 : -10000 ≤ n) (hn2 : n ≤ 10000)
    (CS : ∀ w, SlW w A c (limbs v) → Calls Try.prog 72 #[.slice A (limbs v).length c, .int .i64 n] w (RNat R w)) :
    Calls Try.prog 37 #[.slice A (limbs v).length c, .int .i64 n] w (RNE (outN 0 R) w) := by
  refine calls_b fun g => ?_
  have C1 := Lib.hid (fun w h => rcheck_any A c (limbs v) w h)
  rw [chk_limbs hv] at C1
  have CS := Lib.hid CS
  have CY := Lib.hid (fun A c w h hv => rfits_yes A c R w h hv)
  have CN := Lib.hid (fun A c w h hv => rfits_no A c R w h hv)
  have h1' : decide (n < -10000) = false := decide_eq_false (by omega)
  have h2' : decide (10000 < n) = false := decide_eq_false (by omega)
  have h3 : ¬ (n < -10000) := by omega
  have h4 : ¬ (10000 < n) := by omega
  clear hv hn1 hn2
  generalize (limbs v).length = k at *
  rcases Decidable.em (R < 2 ^ 8192) with hR | hR
  · have hO : outN 0 R = (R, 0) := by unfold outN; rw [if_neg (by simp), if_pos hR]
    rw [hO]
    have HR := Lib.hid hR
    clear hO hR
    go_enter Try.func37, Try.ntmps37
    go_wp2_with (with_reducible refine G.any_mark _ ?_; (try generalize Array.size (World.heap (G.w _)) = bk); (try dsimp only [List.set_cons_zero, List.set_cons_succ]); (try clear g); intro g)
    refine (C1.out _ (G.sl g (by simp) h)).mono ?_
    rintro e w1 ⟨rfl, hb⟩
    obtain ⟨g1, rfl⟩ := G.call_ex _ hb
    clear hb
    (try clear g)
    revert g1
    intro g
    go_wp2_with (with_reducible refine G.any_mark _ ?_; (try generalize Array.size (World.heap (G.w _)) = bk); (try dsimp only [List.set_cons_zero, List.set_cons_succ]); (try clear g); intro g)
    refine (CS.out _ (G.sl g (by simp) h)).mono ?_
    rintro e w1 ⟨Ax, cx, Fx, rfl, hsx, hn⟩
    have hnnx := fun k o hk => Nat.le_trans g.chg.size (hn.new k o hk)
    obtain ⟨g1, rfl⟩ := G.new_ex _ hn
    clear hn
    (try clear g)
    revert g1
    intro g
    go_wp2_with (with_reducible refine G.any_mark _ ?_; (try generalize Array.size (World.heap (G.w _)) = bk); (try dsimp only [List.set_cons_zero, List.set_cons_succ]); (try clear g); intro g)
    refine (CY.out _ _ _ (G.sl g (by simp) hsx) HR.out).mono ?_
    rintro e w1 ⟨rfl, hb⟩
    obtain ⟨g1, rfl⟩ := G.call_ex _ hb
    clear hb
    (try clear g)
    revert g1
    intro g
    go_wp2_with (with_reducible refine G.any_mark _ ?_; (try generalize Array.size (World.heap (G.w _)) = bk); (try dsimp only [List.set_cons_zero, List.set_cons_succ]); (try clear g); intro g)
    go_ret2
    exact rne_pass g hsx (by simp) hnnx 0
  · have hO : outN 0 R = (0, 5) := by unfold outN; rw [if_neg (by simp), if_neg hR]
    rw [hO]
    have HR := Lib.hid hR
    clear hO hR
    go_enter Try.func37, Try.ntmps37
    go_wp2_with (with_reducible refine G.any_mark _ ?_; (try generalize Array.size (World.heap (G.w _)) = bk); (try dsimp only [List.set_cons_zero, List.set_cons_succ]); (try clear g); intro g)
    refine (C1.out _ (G.sl g (by simp) h)).mono ?_
    rintro e w1 ⟨rfl, hb⟩
    obtain ⟨g1, rfl⟩ := G.call_ex _ hb
    clear hb
    (try clear g)
    revert g1
    intro g
    go_wp2_with (with_reducible refine G.any_mark _ ?_; (try generalize Array.size (World.heap (G.w _)) = bk); (try dsimp only [List.set_cons_zero, List.set_cons_succ]); (try clear g); intro g)
    refine (CS.out _ (G.sl g (by simp) h)).mono ?_
    rintro e w1 ⟨Ax, cx, Fx, rfl, hsx, hn⟩
    have hnnx := fun k o hk => Nat.le_trans g.chg.size (hn.new k o hk)
    obtain ⟨g1, rfl⟩ := G.new_ex _ hn
    clear hn
    (try clear g)
    revert g1
    intro g
    go_wp2_with (with_reducible refine G.any_mark _ ?_; (try generalize Array.size (World.heap (G.w _)) = bk); (try dsimp only [List.set_cons_zero, List.set_cons_succ]); (try clear g); intro g)
    refine (CN.out _ _ _ (G.sl g (by simp) hsx) HR.out).mono ?_
    rintro e w1 ⟨rfl, hb⟩
    obtain ⟨g1, rfl⟩ := G.call_ex _ hb
    clear hb
    (try clear g)
    revert g1
    intro g
    go_wp2_with (with_reducible refine G.any_mark _ ?_; (try generalize Array.size (World.heap (G.w _)) = bk); (try dsimp only [List.set_cons_zero, List.set_cons_succ]); (try clear g); intro g)
    go_ret2
    exact rne_err g 5
theorem rShift_up (A : Option Addr) (c v s : Nat) (w : World) (h : SlW w A c (limbs v)) (hv : v < 2 ^ 8192) (hs : s ≤ 10000) :
    Calls Try.prog 37 #[.slice A (limbs v).length c, .int .i64 (s : Int)] w (RNE (outN 0 (v * 2 ^ s)) w) := by
  have hl : (limbs v).length ≤ 256 := (limbs_len v 256).2 (by rw [pow32]; exact hv)
  refine rShift_core A c v s (v * 2 ^ s) w h hv (by omega) (by omega) fun w h => ?_
  have := rshift_up A c (limbs v) s w h (by omega) (by omega)
  rwa [val_limbs] at this
theorem rShift_down (A : Option Addr) (c v s : Nat) (w : World) (h : SlW w A c (limbs v)) (hv : v < 2 ^ 8192) (hs : s ≤ 10000) :
    Calls Try.prog 37 #[.slice A (limbs v).length c, .int .i64 (-(s : Int))] w (RNE (v / 2 ^ s, 0) w) := by
  have hl : (limbs v).length ≤ 256 := (limbs_len v 256).2 (by rw [pow32]; exact hv)
  have key := rShift_core A c v (-(s : Int)) (v / 2 ^ s) w h hv (by omega) (by omega) fun w h => by
    by_cases h0 : s = 0
    · subst h0
      have := rshift_up A c (limbs v) 0 w h (by omega) (by omega)
      rw [val_limbs] at this
      simpa using this
    · have := rshift_down A c (limbs v) s (-(s : Int)) w h (by omega) (by omega) (by omega) (by omega)
      rwa [val_limbs] at this
  have hO : outN 0 (v / 2 ^ s) = (v / 2 ^ s, 0) := by unfold outN; rw [if_neg (by simp), if_pos (Nat.lt_of_le_of_lt (Nat.div_le_self _ _) hv)]
  rwa [hO] at key
theorem rShift_any (A : Option Addr) (c : Nat) (l : List Nat) (n : Int) (w : World) (h : SlW w A c l) :
    Calls Try.prog 37 #[.slice A l.length c, .int .i64 n] w (RNE (outH (chk l) (val l) n) w) := by
  unfold outH
  by_cases hx : chk l = 0
  · rw [if_neg (by simpa using hx)]
    by_cases hn : n < -10000 ∨ 10000 < n
    · rw [if_pos hn]
      exact rShift_range A c l n w h hx hn
    · rw [if_neg hn]
      obtain ⟨e1, b1, _⟩ := chk_ok h.ok hx
      by_cases h0 : n < 0
      · rw [if_pos h0]
        have := rShift_down A c (val l) n.natAbs w (by rw [← e1]; exact h) b1 (by omega)
        rw [← e1, show (-(n.natAbs : Int)) = n by omega] at this
        exact this
      · rw [if_neg h0]
        have := rShift_up A c (val l) n.natAbs w (by rw [← e1]; exact h) b1 (by omega)
        rw [← e1, show ((n.natAbs : Nat) : Int) = n by omega] at this
        exact this
  · rw [if_pos hx]
    exact rShift_err A c l n w h hx
set_option maxRecDepth 20000 in
theorem rAdd_any (A1 A2 : Option Addr) (c1 c2 : Nat) (l1 l2 : List Nat) (w : World) (h1 : SlW w A1 c1 l1) (h2 : SlW w A2 c2 l2) :
    Calls Try.prog 34 #[.slice A1 l1.length c1, .slice A2 l2.length c2] w (RNE (outN (chk2 l1 l2) (val l1 + val l2)) w) := by
  refine calls_b fun g => ?_
  have CK := Lib.hid (fun w h1 h2 => both_any A1 A2 c1 c2 l1 l2 w h1 h2)
  by_cases hx : chk2 l1 l2 = 0
  · obtain ⟨k1, k2⟩ := chk2_ok hx
    obtain ⟨e1, b1, n1'⟩ := chk_ok h1.ok k1
    obtain ⟨e2, b2, n2'⟩ := chk_ok h2.ok k2
    have CA := Lib.hid (fun w h1 h2 => radd_any A1 A2 c1 c2 (val l1) (val l2) w h1 h2 (by rw [← e1]; omega) (by rw [← e2]; omega))
    rw [← e1, ← e2] at CA
    have CY := Lib.hid (fun A c w h hv => rfits_yes A c (val l1 + val l2) w h hv)
    have CN := Lib.hid (fun A c w h hv => rfits_no A c (val l1 + val l2) w h hv)
    rw [hx] at CK ⊢
    clear hx k1 k2 e1 e2 b1 b2 n1' n2'
    generalize val l1 + val l2 = v at *
    generalize l1.length = n1 at *
    generalize l2.length = n2 at *
    rcases Decidable.em (v < 2 ^ 8192) with hv | hv
    · have hO : outN 0 v = (v, 0) := by unfold outN; rw [if_neg (by simp), if_pos hv]
      rw [hO]
      have HV := Lib.hid hv
      clear hO hv
      go_enter Try.func34, Try.ntmps34
      go_wp2_with (with_reducible refine G.any_mark _ ?_; (try generalize Array.size (World.heap (G.w _)) = bk); (try dsimp only [List.set_cons_zero, List.set_cons_succ]); (try clear g); intro g)
      refine (CK.out _ (G.sl g (by simp) h1) (G.sl g (by simp) h2)).mono ?_
      rintro e w1 ⟨rfl, hb⟩
      obtain ⟨g1, rfl⟩ := G.call_ex _ hb
      clear hb
      (try clear g)
      revert g1
      intro g
      go_wp2_with (with_reducible refine G.any_mark _ ?_; (try generalize Array.size (World.heap (G.w _)) = bk); (try dsimp only [List.set_cons_zero, List.set_cons_succ]); (try clear g); intro g)
      refine (CA.out _ (G.sl g (by simp) h1) (G.sl g (by simp) h2)).mono ?_
      rintro e w1 ⟨Ax, cx, Fx, rfl, hsx, hn⟩
      have hnnx := fun k o hk => Nat.le_trans g.chg.size (hn.new k o hk)
      obtain ⟨g1, rfl⟩ := G.new_ex _ hn
      clear hn
      (try clear g)
      revert g1
      intro g
      go_wp2_with (with_reducible refine G.any_mark _ ?_; (try generalize Array.size (World.heap (G.w _)) = bk); (try dsimp only [List.set_cons_zero, List.set_cons_succ]); (try clear g); intro g)
      refine (CY.out _ _ _ (G.sl g (by simp) hsx) HV.out).mono ?_
      rintro e w1 ⟨rfl, hb⟩
      obtain ⟨g1, rfl⟩ := G.call_ex _ hb
      clear hb
      (try clear g)
      revert g1
      intro g
      go_wp2_with (with_reducible refine G.any_mark _ ?_; (try generalize Array.size (World.heap (G.w _)) = bk); (try dsimp only [List.set_cons_zero, List.set_cons_succ]); (try clear g); intro g)
      go_ret2
      exact rne_pass g hsx (by simp) hnnx 0
    · have hO : outN 0 v = (0, 5) := by unfold outN; rw [if_neg (by simp), if_neg hv]
      rw [hO]
      have HV := Lib.hid hv
      clear hO hv
      go_enter Try.func34, Try.ntmps34
      go_wp2_with (with_reducible refine G.any_mark _ ?_; (try generalize Array.size (World.heap (G.w _)) = bk); (try dsimp only [List.set_cons_zero, List.set_cons_succ]); (try clear g); intro g)
      refine (CK.out _ (G.sl g (by simp) h1) (G.sl g (by simp) h2)).mono ?_
      rintro e w1 ⟨rfl, hb⟩
      obtain ⟨g1, rfl⟩ := G.call_ex _ hb
      clear hb
      (try clear g)
      revert g1
      intro g
      go_wp2_with (with_reducible refine G.any_mark _ ?_; (try generalize Array.size (World.heap (G.w _)) = bk); (try dsimp only [List.set_cons_zero, List.set_cons_succ]); (try clear g); intro g)
      refine (CA.out _ (G.sl g (by simp) h1) (G.sl g (by simp) h2)).mono ?_
      rintro e w1 ⟨Ax, cx, Fx, rfl, hsx, hn⟩
      have hnnx := fun k o hk => Nat.le_trans g.chg.size (hn.new k o hk)
      obtain ⟨g1, rfl⟩ := G.new_ex _ hn
      clear hn
      (try clear g)
      revert g1
      intro g
      go_wp2_with (with_reducible refine G.any_mark _ ?_; (try generalize Array.size (World.heap (G.w _)) = bk); (try dsimp only [List.set_cons_zero, List.set_cons_succ]); (try clear g); intro g)
      refine (CN.out _ _ _ (G.sl g (by simp) hsx) HV.out).mono ?_
      rintro e w1 ⟨rfl, hb⟩
      obtain ⟨g1, rfl⟩ := G.call_ex _ hb
      clear hb
      (try clear g)
      revert g1
      intro g
      go_wp2_with (with_reducible refine G.any_mark _ ?_; (try generalize Array.size (World.heap (G.w _)) = bk); (try dsimp only [List.set_cons_zero, List.set_cons_succ]); (try clear g); intro g)
      go_ret2
      exact rne_err g 5
  · have hx' : (chk2 l1 l2 == 0) = false := by simpa using hx
    have hO : outN (chk2 l1 l2) (val l1 + val l2) = (0, chk2 l1 l2) := by unfold outN; rw [if_pos hx]
    rw [hO]
    clear hO hx
    generalize chk2 l1 l2 = r at *
    generalize l1.length = n1 at *
    generalize l2.length = n2 at *
    go_enter Try.func34, Try.ntmps34
    go_wp2_with (with_reducible refine G.any_mark _ ?_; (try generalize Array.size (World.heap (G.w _)) = bk); (try dsimp only [List.set_cons_zero, List.set_cons_succ]); (try clear g); intro g)
    refine (CK.out _ (G.sl g (by simp) h1) (G.sl g (by simp) h2)).mono ?_
    rintro e w1 ⟨rfl, hb⟩
    obtain ⟨g1, rfl⟩ := G.call_ex _ hb
    clear hb
    (try clear g)
    revert g1
    intro g
    go_wp2_with (with_reducible refine G.any_mark _ ?_; (try generalize Array.size (World.heap (G.w _)) = bk); (try dsimp only [List.set_cons_zero, List.set_cons_succ]); (try clear g); intro g)
    go_ret2
    exact rne_err g r
set_option maxRecDepth 20000 in
theorem rMul_any (A1 A2 : Option Addr) (c1 c2 : Nat) (l1 l2 : List Nat) (w : World) (h1 : SlW w A1 c1 l1) (h2 : SlW w A2 c2 l2) :
    Calls Try.prog 36 #[.slice A1 l1.length c1, .slice A2 l2.length c2] w (RNE (outN (chk2 l1 l2) (val l1 * val l2)) w) := by
  refine calls_b fun g => ?_
  have CK := Lib.hid (fun w h1 h2 => both_any A1 A2 c1 c2 l1 l2 w h1 h2)
  by_cases hx : chk2 l1 l2 = 0
  · obtain ⟨k1, k2⟩ := chk2_ok hx
    obtain ⟨e1, b1, n1'⟩ := chk_ok h1.ok k1
    obtain ⟨e2, b2, n2'⟩ := chk_ok h2.ok k2
    have CA := Lib.hid (fun w h1 h2 => rmul_any A1 A2 c1 c2 l1 l2 w h1 h2 (by omega) (by omega))
    skip
    have CY := Lib.hid (fun A c w h hv => rfits_yes A c (val l1 * val l2) w h hv)
    have CN := Lib.hid (fun A c w h hv => rfits_no A c (val l1 * val l2) w h hv)
    rw [hx] at CK ⊢
    clear hx k1 k2 e1 e2 b1 b2 n1' n2'
    generalize val l1 * val l2 = v at *
    generalize l1.length = n1 at *
    generalize l2.length = n2 at *
    rcases Decidable.em (v < 2 ^ 8192) with hv | hv
    · have hO : outN 0 v = (v, 0) := by unfold outN; rw [if_neg (by simp), if_pos hv]
      rw [hO]
      have HV := Lib.hid hv
      clear hO hv
      go_enter Try.func36, Try.ntmps36
      go_wp2_with (with_reducible refine G.any_mark _ ?_; (try generalize Array.size (World.heap (G.w _)) = bk); (try dsimp only [List.set_cons_zero, List.set_cons_succ]); (try clear g); intro g)
      refine (CK.out _ (G.sl g (by simp) h1) (G.sl g (by simp) h2)).mono ?_
      rintro e w1 ⟨rfl, hb⟩
      obtain ⟨g1, rfl⟩ := G.call_ex _ hb
      clear hb
      (try clear g)
      revert g1
      intro g
      go_wp2_with (with_reducible refine G.any_mark _ ?_; (try generalize Array.size (World.heap (G.w _)) = bk); (try dsimp only [List.set_cons_zero, List.set_cons_succ]); (try clear g); intro g)
      refine (CA.out _ (G.sl g (by simp) h1) (G.sl g (by simp) h2)).mono ?_
      rintro e w1 ⟨Ax, cx, Fx, rfl, hsx, hn⟩
      have hnnx := fun k o hk => Nat.le_trans g.chg.size (hn.new k o hk)
      obtain ⟨g1, rfl⟩ := G.new_ex _ hn
      clear hn
      (try clear g)
      revert g1
      intro g
      go_wp2_with (with_reducible refine G.any_mark _ ?_; (try generalize Array.size (World.heap (G.w _)) = bk); (try dsimp only [List.set_cons_zero, List.set_cons_succ]); (try clear g); intro g)
      refine (CY.out _ _ _ (G.sl g (by simp) hsx) HV.out).mono ?_
      rintro e w1 ⟨rfl, hb⟩
      obtain ⟨g1, rfl⟩ := G.call_ex _ hb
      clear hb
      (try clear g)
      revert g1
      intro g
      go_wp2_with (with_reducible refine G.any_mark _ ?_; (try generalize Array.size (World.heap (G.w _)) = bk); (try dsimp only [List.set_cons_zero, List.set_cons_succ]); (try clear g); intro g)
      go_ret2
      exact rne_pass g hsx (by simp) hnnx 0
    · have hO : outN 0 v = (0, 5) := by unfold outN; rw [if_neg (by simp), if_neg hv]
      rw [hO]
      have HV := Lib.hid hv
      clear hO hv
      go_enter Try.func36, Try.ntmps36
      go_wp2_with (with_reducible refine G.any_mark _ ?_; (try generalize Array.size (World.heap (G.w _)) = bk); (try dsimp only [List.set_cons_zero, List.set_cons_succ]); (try clear g); intro g)
      refine (CK.out _ (G.sl g (by simp) h1) (G.sl g (by simp) h2)).mono ?_
      rintro e w1 ⟨rfl, hb⟩
      obtain ⟨g1, rfl⟩ := G.call_ex _ hb
      clear hb
      (try clear g)
      revert g1
      intro g
      go_wp2_with (with_reducible refine G.any_mark _ ?_; (try generalize Array.size (World.heap (G.w _)) = bk); (try dsimp only [List.set_cons_zero, List.set_cons_succ]); (try clear g); intro g)
      refine (CA.out _ (G.sl g (by simp) h1) (G.sl g (by simp) h2)).mono ?_
      rintro e w1 ⟨Ax, cx, Fx, rfl, hsx, hn⟩
      have hnnx := fun k o hk => Nat.le_trans g.chg.size (hn.new k o hk)
      obtain ⟨g1, rfl⟩ := G.new_ex _ hn
      clear hn
      (try clear g)
      revert g1
      intro g
      go_wp2_with (with_reducible refine G.any_mark _ ?_; (try generalize Array.size (World.heap (G.w _)) = bk); (try dsimp only [List.set_cons_zero, List.set_cons_succ]); (try clear g); intro g)
      refine (CN.out _ _ _ (G.sl g (by simp) hsx) HV.out).mono ?_
      rintro e w1 ⟨rfl, hb⟩
      obtain ⟨g1, rfl⟩ := G.call_ex _ hb
      clear hb
      (try clear g)
      revert g1
      intro g
      go_wp2_with (with_reducible refine G.any_mark _ ?_; (try generalize Array.size (World.heap (G.w _)) = bk); (try dsimp only [List.set_cons_zero, List.set_cons_succ]); (try clear g); intro g)
      go_ret2
      exact rne_err g 5
  · have hx' : (chk2 l1 l2 == 0) = false := by simpa using hx
    have hO : outN (chk2 l1 l2) (val l1 * val l2) = (0, chk2 l1 l2) := by unfold outN; rw [if_pos hx]
    rw [hO]
    clear hO hx
    generalize chk2 l1 l2 = r at *
    generalize l1.length = n1 at *
    generalize l2.length = n2 at *
    go_enter Try.func36, Try.ntmps36
    go_wp2_with (with_reducible refine G.any_mark _ ?_; (try generalize Array.size (World.heap (G.w _)) = bk); (try dsimp only [List.set_cons_zero, List.set_cons_succ]); (try clear g); intro g)
    refine (CK.out _ (G.sl g (by simp) h1) (G.sl g (by simp) h2)).mono ?_
    rintro e w1 ⟨rfl, hb⟩
    obtain ⟨g1, rfl⟩ := G.call_ex _ hb
    clear hb
    (try clear g)
    revert g1
    intro g
    go_wp2_with (with_reducible refine G.any_mark _ ?_; (try generalize Array.size (World.heap (G.w _)) = bk); (try dsimp only [List.set_cons_zero, List.set_cons_succ]); (try clear g); intro g)
    go_ret2
    exact rne_err g r
set_option maxRecDepth 20000 in
theorem rCmp_any (A1 A2 : Option Addr) (c1 c2 : Nat) (l1 l2 : List Nat) (w : World) (h1 : SlW w A1 c1 l1) (h2 : SlW w A2 c2 l2) :
    Calls Try.prog 42 #[.slice A1 l1.length c1, .slice A2 l2.length c2] w fun e w' => e = .returned (.tuple #[.int .i64 (outC (chk2 l1 l2) (ord (val l1) (val l2))).1, .int .i64 (outC (chk2 l1 l2) (ord (val l1) (val l2))).2]) ∧ Below w.heap.size w w' := by
  refine calls_b fun g => ?_
  have CK := Lib.hid (fun w h1 h2 => both_any A1 A2 c1 c2 l1 l2 w h1 h2)
  by_cases hx : chk2 l1 l2 = 0
  · obtain ⟨k1, k2⟩ := chk2_ok hx
    obtain ⟨e1, b1, n1'⟩ := chk_ok h1.ok k1
    obtain ⟨e2, b2, n2'⟩ := chk_ok h2.ok k2
    have CA := Lib.hid (fun w h1 h2 => rcmp_any A1 A2 c1 c2 (val l1) (val l2) w h1 h2 (by rw [← e1]; omega))
    rw [← e1, ← e2] at CA
    have hO : outC (chk2 l1 l2) (ord (val l1) (val l2)) = (ord (val l1) (val l2), 0) := by unfold outC; rw [if_neg (by simpa using hx)]
    rw [hO]
    rw [hx] at CK
    clear hx k1 k2 e1 e2 b1 b2 n1' n2' hO
    generalize ord (val l1) (val l2) = v at *
    generalize l1.length = n1 at *
    generalize l2.length = n2 at *
    go_enter Try.func42, Try.ntmps42
    go_wp2_with (with_reducible refine G.any_mark _ ?_; (try generalize Array.size (World.heap (G.w _)) = bk); (try dsimp only [List.set_cons_zero, List.set_cons_succ]); (try clear g); intro g)
    refine (CK.out _ (G.sl g (by simp) h1) (G.sl g (by simp) h2)).mono ?_
    rintro e w1 ⟨rfl, hb⟩
    obtain ⟨g1, rfl⟩ := G.call_ex _ hb
    clear hb
    (try clear g)
    revert g1
    intro g
    go_wp2_with (with_reducible refine G.any_mark _ ?_; (try generalize Array.size (World.heap (G.w _)) = bk); (try dsimp only [List.set_cons_zero, List.set_cons_succ]); (try clear g); intro g)
    refine (CA.out _ (G.sl g (by simp) h1) (G.sl g (by simp) h2)).mono ?_
    rintro e w1 ⟨rfl, hb⟩
    obtain ⟨g1, rfl⟩ := G.call_ex _ hb
    clear hb
    (try clear g)
    revert g1
    intro g
    go_wp2_with (with_reducible refine G.any_mark _ ?_; (try generalize Array.size (World.heap (G.w _)) = bk); (try dsimp only [List.set_cons_zero, List.set_cons_succ]); (try clear g); intro g)
    go_ret2
    exact ⟨rfl, g.below⟩
  · have hx' : (chk2 l1 l2 == 0) = false := by simpa using hx
    have hO : outC (chk2 l1 l2) (ord (val l1) (val l2)) = (0, chk2 l1 l2) := by unfold outC; rw [if_pos hx]
    rw [hO]
    clear hO hx
    generalize chk2 l1 l2 = r at *
    generalize l1.length = n1 at *
    generalize l2.length = n2 at *
    go_enter Try.func42, Try.ntmps42
    go_wp2_with (with_reducible refine G.any_mark _ ?_; (try generalize Array.size (World.heap (G.w _)) = bk); (try dsimp only [List.set_cons_zero, List.set_cons_succ]); (try clear g); intro g)
    refine (CK.out _ (G.sl g (by simp) h1) (G.sl g (by simp) h2)).mono ?_
    rintro e w1 ⟨rfl, hb⟩
    obtain ⟨g1, rfl⟩ := G.call_ex _ hb
    clear hb
    (try clear g)
    revert g1
    intro g
    go_wp2_with (with_reducible refine G.any_mark _ ?_; (try generalize Array.size (World.heap (G.w _)) = bk); (try dsimp only [List.set_cons_zero, List.set_cons_succ]); (try clear g); intro g)
    go_ret2
    exact ⟨rfl, g.below⟩
set_option maxRecDepth 20000 in
theorem rSub_any (A1 A2 : Option Addr) (c1 c2 : Nat) (l1 l2 : List Nat) (w : World) (h1 : SlW w A1 c1 l1) (h2 : SlW w A2 c2 l2) :
    Calls Try.prog 35 #[.slice A1 l1.length c1, .slice A2 l2.length c2] w (RNE (outS (chk2 l1 l2) (val l1) (val l2)) w) := by
  refine calls_b fun g => ?_
  have CK := Lib.hid (fun w h1 h2 => both_any A1 A2 c1 c2 l1 l2 w h1 h2)
  by_cases hx : chk2 l1 l2 = 0
  · obtain ⟨k1, k2⟩ := chk2_ok hx
    obtain ⟨e1, b1, n1'⟩ := chk_ok h1.ok k1
    obtain ⟨e2, b2, n2'⟩ := chk_ok h2.ok k2
    have CA := Lib.hid (fun w h1 h2 => rcmp_any A1 A2 c1 c2 (val l1) (val l2) w h1 h2 (by rw [← e1]; omega))
    rw [← e1, ← e2] at CA
    rw [hx] at CK
    have hx0 := hx
    by_cases hlt : val l1 < val l2
    · have hO : outS (chk2 l1 l2) (val l1) (val l2) = (0, 2) := by unfold outS; rw [if_neg (by simpa using hx), if_pos hlt]
      have hord : ord (val l1) (val l2) = -1 := by unfold ord; rw [if_pos hlt]
      rw [hO]
      rw [hord] at CA
      clear hx hx0 k1 k2 e1 e2 b1 b2 n1' n2' hO hlt hord
      generalize l1.length = n1 at *
      generalize l2.length = n2 at *
      go_enter Try.func35, Try.ntmps35
      go_wp2_with (with_reducible refine G.any_mark _ ?_; (try generalize Array.size (World.heap (G.w _)) = bk); (try dsimp only [List.set_cons_zero, List.set_cons_succ]); (try clear g); intro g)
      refine (CK.out _ (G.sl g (by simp) h1) (G.sl g (by simp) h2)).mono ?_
      rintro e w1 ⟨rfl, hb⟩
      obtain ⟨g1, rfl⟩ := G.call_ex _ hb
      clear hb
      (try clear g)
      revert g1
      intro g
      go_wp2_with (with_reducible refine G.any_mark _ ?_; (try generalize Array.size (World.heap (G.w _)) = bk); (try dsimp only [List.set_cons_zero, List.set_cons_succ]); (try clear g); intro g)
      refine (CA.out _ (G.sl g (by simp) h1) (G.sl g (by simp) h2)).mono ?_
      rintro e w1 ⟨rfl, hb⟩
      obtain ⟨g1, rfl⟩ := G.call_ex _ hb
      clear hb
      (try clear g)
      revert g1
      intro g
      go_wp2_with (with_reducible refine G.any_mark _ ?_; (try generalize Array.size (World.heap (G.w _)) = bk); (try dsimp only [List.set_cons_zero, List.set_cons_succ]); (try clear g); intro g)
      go_ret2
      exact rne_err g 2
    · have hO : outS (chk2 l1 l2) (val l1) (val l2) = (val l1 - val l2, 0) := by unfold outS; rw [if_neg (by simpa using hx), if_neg hlt]
      obtain ⟨C, hC⟩ : ∃ C, ord (val l1) (val l2) = C := ⟨_, rfl⟩
      have hC0 : 0 ≤ C := by rw [← hC]; unfold ord; rw [if_neg hlt]; split <;> decide
      have hC1 : ¬ C < 0 := by omega
      have hll : l2.length ≤ l1.length := by
        have := limbs_len_mono (m := val l2) (n := val l1) (by omega)
        rwa [← e1, ← e2] at this
      have CS := Lib.hid (fun w h1 h2 => rsub_any A1 A2 c1 c2 l1 l2 w h1 h2 (by omega) hll (by omega))
      rw [hO]
      rw [hC] at CA
      clear hx hx0 k1 k2 e1 e2 b1 b2 n1' n2' hO hlt hC hll
      generalize val l1 - val l2 = v at *
      generalize l1.length = n1 at *
      generalize l2.length = n2 at *
      go_enter Try.func35, Try.ntmps35
      go_wp2_with (with_reducible refine G.any_mark _ ?_; (try generalize Array.size (World.heap (G.w _)) = bk); (try dsimp only [List.set_cons_zero, List.set_cons_succ]); (try clear g); intro g)
      refine (CK.out _ (G.sl g (by simp) h1) (G.sl g (by simp) h2)).mono ?_
      rintro e w1 ⟨rfl, hb⟩
      obtain ⟨g1, rfl⟩ := G.call_ex _ hb
      clear hb
      (try clear g)
      revert g1
      intro g
      go_wp2_with (with_reducible refine G.any_mark _ ?_; (try generalize Array.size (World.heap (G.w _)) = bk); (try dsimp only [List.set_cons_zero, List.set_cons_succ]); (try clear g); intro g)
      refine (CA.out _ (G.sl g (by simp) h1) (G.sl g (by simp) h2)).mono ?_
      rintro e w1 ⟨rfl, hb⟩
      obtain ⟨g1, rfl⟩ := G.call_ex _ hb
      clear hb
      (try clear g)
      revert g1
      intro g
      go_wp2_with (with_reducible refine G.any_mark _ ?_; (try generalize Array.size (World.heap (G.w _)) = bk); (try dsimp only [List.set_cons_zero, List.set_cons_succ]); (try clear g); intro g)
      refine (CS.out _ (G.sl g (by simp) h1) (G.sl g (by simp) h2)).mono ?_
      rintro e w1 ⟨Ax, cx, Fx, rfl, hsx, hn⟩
      have hnnx := fun k o hk => Nat.le_trans g.chg.size (hn.new k o hk)
      obtain ⟨g1, rfl⟩ := G.new_ex _ hn
      clear hn
      (try clear g)
      revert g1
      intro g
      go_wp2_with (with_reducible refine G.any_mark _ ?_; (try generalize Array.size (World.heap (G.w _)) = bk); (try dsimp only [List.set_cons_zero, List.set_cons_succ]); (try clear g); intro g)
      go_ret2
      exact rne_pass g hsx (by simp) hnnx 0
  · have hx' : (chk2 l1 l2 == 0) = false := by simpa using hx
    have hO : outS (chk2 l1 l2) (val l1) (val l2) = (0, chk2 l1 l2) := by unfold outS; rw [if_pos hx]
    rw [hO]
    clear hO hx
    generalize chk2 l1 l2 = r at *
    generalize l1.length = n1 at *
    generalize l2.length = n2 at *
    go_enter Try.func35, Try.ntmps35
    go_wp2_with (with_reducible refine G.any_mark _ ?_; (try generalize Array.size (World.heap (G.w _)) = bk); (try dsimp only [List.set_cons_zero, List.set_cons_succ]); (try clear g); intro g)
    refine (CK.out _ (G.sl g (by simp) h1) (G.sl g (by simp) h2)).mono ?_
    rintro e w1 ⟨rfl, hb⟩
    obtain ⟨g1, rfl⟩ := G.call_ex _ hb
    clear hb
    (try clear g)
    revert g1
    intro g
    go_wp2_with (with_reducible refine G.any_mark _ ?_; (try generalize Array.size (World.heap (G.w _)) = bk); (try dsimp only [List.set_cons_zero, List.set_cons_succ]); (try clear g); intro g)
    go_ret2
    exact rne_err g r
/-- what Bits returns -/
def outB (e : Int) (v : Nat) : Int × Int := if e ≠ 0 then (0, e) else ((nb v : Int), 0)
theorem nBits_any (A : Option Addr) (c : Nat) (l : List Nat) (w : World) (h : SlW w A c l) :
    Calls Try.prog 40 #[.slice A l.length c] w fun e w' => e = .returned (.tuple #[.int .i64 (outB (chk l) (val l)).1, .int .i64 (outB (chk l) (val l)).2]) ∧ Below w.heap.size w w' := by
  refine calls_b fun g => ?_
  have CK := Lib.hid (fun w h => check_any A c l w h)
  by_cases hx : chk l = 0
  · obtain ⟨e1, b1, n1'⟩ := chk_ok h.ok hx
    have CB := Lib.hid (fun w h => length_any A c (val l) w h (by rw [← e1]; omega))
    rw [← e1] at CB
    have hO : outB (chk l) (val l) = ((nb (val l) : Int), 0) := by unfold outB; rw [if_neg (by simpa using hx)]
    rw [hO]
    rw [hx] at CK
    clear hx e1 b1 n1' hO
    generalize nb (val l) = v at *
    generalize l.length = n at *
    go_enter Try.func40, Try.ntmps40
    go_wp2_with (with_reducible refine G.any_mark _ ?_; (try generalize Array.size (World.heap (G.w _)) = bk); (try dsimp only [List.set_cons_zero, List.set_cons_succ]); (try clear g); intro g)
    refine (CK.out _ (G.sl g (by simp) h)).mono ?_
    rintro e w1 ⟨rfl, hb⟩
    obtain ⟨g1, rfl⟩ := G.call_ex _ hb
    clear hb
    (try clear g)
    revert g1
    intro g
    go_wp2_with (with_reducible refine G.any_mark _ ?_; (try generalize Array.size (World.heap (G.w _)) = bk); (try dsimp only [List.set_cons_zero, List.set_cons_succ]); (try clear g); intro g)
    refine (CB.out _ (G.sl g (by simp) h)).mono ?_
    rintro e w1 ⟨rfl, hb⟩
    obtain ⟨g1, rfl⟩ := G.call_ex _ hb
    clear hb
    (try clear g)
    revert g1
    intro g
    go_wp2_with (with_reducible refine G.any_mark _ ?_; (try generalize Array.size (World.heap (G.w _)) = bk); (try dsimp only [List.set_cons_zero, List.set_cons_succ]); (try clear g); intro g)
    go_ret2
    exact ⟨rfl, g.below⟩
  · have hx' : (chk l == 0) = false := by simpa using hx
    have hO : outB (chk l) (val l) = (0, chk l) := by unfold outB; rw [if_pos hx]
    rw [hO]
    clear hO hx
    generalize chk l = r at *
    generalize l.length = n at *
    go_enter Try.func40, Try.ntmps40
    go_wp2_with (with_reducible refine G.any_mark _ ?_; (try generalize Array.size (World.heap (G.w _)) = bk); (try dsimp only [List.set_cons_zero, List.set_cons_succ]); (try clear g); intro g)
    refine (CK.out _ (G.sl g (by simp) h)).mono ?_
    rintro e w1 ⟨rfl, hb⟩
    obtain ⟨g1, rfl⟩ := G.call_ex _ hb
    clear hb
    (try clear g)
    revert g1
    intro g
    go_wp2_with (with_reducible refine G.any_mark _ ?_; (try generalize Array.size (World.heap (G.w _)) = bk); (try dsimp only [List.set_cons_zero, List.set_cons_succ]); (try clear g); intro g)
    go_ret2
    exact ⟨rfl, g.below⟩
theorem rBits_any (A : Option Addr) (c : Nat) (l : List Nat) (w : World) (h : SlW w A c l) :
    Calls Try.prog 41 #[.slice A l.length c] w fun e w' => e = .returned (.tuple #[.int .i64 (outB (chk l) (val l)).1, .int .i64 (outB (chk l) (val l)).2]) ∧ Below w.heap.size w w' := by
  refine calls_b fun g => ?_
  have CK := Lib.hid (fun w h => rcheck_any A c l w h)
  by_cases hx : chk l = 0
  · obtain ⟨e1, b1, n1'⟩ := chk_ok h.ok hx
    have CB := Lib.hid (fun w h => rbits_any A c (val l) w h (by rw [← e1]; omega))
    rw [← e1] at CB
    have hO : outB (chk l) (val l) = ((nb (val l) : Int), 0) := by unfold outB; rw [if_neg (by simpa using hx)]
    rw [hO]
    rw [hx] at CK
    clear hx e1 b1 n1' hO
    generalize nb (val l) = v at *
    generalize l.length = n at *
    go_enter Try.func41, Try.ntmps41
    go_wp2_with (with_reducible refine G.any_mark _ ?_; (try generalize Array.size (World.heap (G.w _)) = bk); (try dsimp only [List.set_cons_zero, List.set_cons_succ]); (try clear g); intro g)
    refine (CK.out _ (G.sl g (by simp) h)).mono ?_
    rintro e w1 ⟨rfl, hb⟩
    obtain ⟨g1, rfl⟩ := G.call_ex _ hb
    clear hb
    (try clear g)
    revert g1
    intro g
    go_wp2_with (with_reducible refine G.any_mark _ ?_; (try generalize Array.size (World.heap (G.w _)) = bk); (try dsimp only [List.set_cons_zero, List.set_cons_succ]); (try clear g); intro g)
    refine (CB.out _ (G.sl g (by simp) h)).mono ?_
    rintro e w1 ⟨rfl, hb⟩
    obtain ⟨g1, rfl⟩ := G.call_ex _ hb
    clear hb
    (try clear g)
    revert g1
    intro g
    go_wp2_with (with_reducible refine G.any_mark _ ?_; (try generalize Array.size (World.heap (G.w _)) = bk); (try dsimp only [List.set_cons_zero, List.set_cons_succ]); (try clear g); intro g)
    go_ret2
    exact ⟨rfl, g.below⟩
  · have hx' : (chk l == 0) = false := by simpa using hx
    have hO : outB (chk l) (val l) = (0, chk l) := by unfold outB; rw [if_pos hx]
    rw [hO]
    clear hO hx
    generalize chk l = r at *
    generalize l.length = n at *
    go_enter Try.func41, Try.ntmps41
    go_wp2_with (with_reducible refine G.any_mark _ ?_; (try generalize Array.size (World.heap (G.w _)) = bk); (try dsimp only [List.set_cons_zero, List.set_cons_succ]); (try clear g); intro g)
    refine (CK.out _ (G.sl g (by simp) h)).mono ?_
    rintro e w1 ⟨rfl, hb⟩
    obtain ⟨g1, rfl⟩ := G.call_ex _ hb
    clear hb
    (try clear g)
    revert g1
    intro g
    go_wp2_with (with_reducible refine G.any_mark _ ?_; (try generalize Array.size (World.heap (G.w _)) = bk); (try dsimp only [List.set_cons_zero, List.set_cons_succ]); (try clear g); intro g)
    go_ret2
    exact ⟨rfl, g.below⟩
end Go.Proofs.Ytfifcpgjcgoinaa

set_option exponentiation.threshold 10000
namespace Go.Proofs.Ytfifcpgjcgoinaa
open Go.RowKit GW NL
/-- what Int returns -/
def outI (e : Int) (v : Nat) : Int × Int := if e ≠ 0 then (0, e) else if 63 < nb v then (0, 5) else ((v : Int), 0)
theorem two_parts {l : List Nat} (h : Ok l) (hv : val l < 9223372036854775808) : l.getD 0 0 = val l % 4294967296 ∧ l.getD 1 0 = val l / 4294967296 := by
  have h0 := getD_val l h 0
  have h1 := getD_val l h 1
  rw [Nat.pow_zero, Nat.div_one] at h0
  rw [Nat.pow_one, Nat.mod_eq_of_lt (by omega)] at h1
  exact ⟨h0, h1⟩
set_option maxRecDepth 20000 in
theorem Int_any (A : Option Addr) (c : Nat) (l : List Nat) (w : World) (h : SlW w A c l) :
    Calls Try.prog 38 #[.slice A l.length c] w fun e w' => e = .returned (.tuple #[.int .i64 (outI (chk l) (val l)).1, .int .i64 (outI (chk l) (val l)).2]) ∧ Below w.heap.size w w' := by
  refine calls_b fun g => ?_
  have CK := Lib.hid (fun w h => check_any A c l w h)
  by_cases hx : chk l = 0
  · obtain ⟨e1, b1, n1'⟩ := chk_ok h.ok hx
    have CB := Lib.hid (fun w h => length_any A c (val l) w h (by rw [← e1]; omega))
    rw [← e1] at CB
    by_cases h63 : 63 < nb (val l)
    · have hO : outI (chk l) (val l) = (0, 5) := by unfold outI; rw [if_neg (by simpa using hx), if_pos h63]
      rw [hO]
      rw [hx] at CK
      have h63i : (63 : Int) < (nb (val l) : Nat) := by omega
      clear hx e1 b1 n1' hO h63
      generalize nb (val l) = v at *
      generalize l.length = n at *
      go_enter Try.func38, Try.ntmps38
      go_wp2_with (with_reducible refine G.any_mark _ ?_; (try generalize Array.size (World.heap (G.w _)) = bk); (try dsimp only [List.set_cons_zero, List.set_cons_succ]); (try clear g); intro g)
      refine (CK.out _ (G.sl g (by simp) h)).mono ?_
      rintro e w1 ⟨rfl, hb⟩
      obtain ⟨g1, rfl⟩ := G.call_ex _ hb
      clear hb
      (try clear g)
      revert g1
      intro g
      go_wp2_with (with_reducible refine G.any_mark _ ?_; (try generalize Array.size (World.heap (G.w _)) = bk); (try dsimp only [List.set_cons_zero, List.set_cons_succ]); (try clear g); intro g)
      refine (CB.out _ (G.sl g (by simp) h)).mono ?_
      rintro e w1 ⟨rfl, hb⟩
      obtain ⟨g1, rfl⟩ := G.call_ex _ hb
      clear hb
      (try clear g)
      revert g1
      intro g
      go_wp2_with (with_reducible refine G.any_mark _ ?_; (try generalize Array.size (World.heap (G.w _)) = bk); (try dsimp only [List.set_cons_zero, List.set_cons_succ]); (try clear g); intro g)
      go_ret2
      exact ⟨rfl, g.below⟩
    · have hO : outI (chk l) (val l) = ((val l : Int), 0) := by unfold outI; rw [if_neg (by simpa using hx), if_neg h63]
      have hv : val l < 9223372036854775808 := by
        have := (nb_le (val l) 63).1 (by omega)
        simpa using this
      obtain ⟨p0, p1⟩ := two_parts h.ok hv
      have CL0 := Lib.hid (fun w h => limb_any A c l 0 w h (by omega))
      have CL1 := Lib.hid (fun w h => limb_any A c l 1 w h (by omega))
      rw [hO]
      rw [hx] at CK
      have h63i : ¬ ((63 : Int) < (nb (val l) : Nat)) := by omega
      rw [show ((0 : Nat) : Int) = 0 from rfl] at CL0
      rw [show ((1 : Nat) : Int) = 1 from rfl] at CL1
      clear hx e1 b1 n1' hO h63
      generalize l.getD 0 0 = x at *
      generalize l.getD 1 0 = y at *
      generalize val l = V at *
      have hyV : y * 4294967296 + x = V := by omega
      have hx9 : x < 4294967296 := by omega
      have hy9 : y < 2147483648 := by omega
      have hor : bits .or .i64 ((y : Int) * 4294967296) (x : Int) = (V : Int) := by
        rw [show (y : Int) * 4294967296 = ((y * 4294967296 : Nat) : Int) by omega, K3.or_i64_comm, K3.or_i64_add _ _ 32 (by omega) (by omega) (by omega) (by omega)]
        omega
      have hw1 : IntKind.i64.wrap (y : Int) = (y : Int) := by rw [IntKind.wrap_i64]; omega
      have hw2 : IntKind.i64.wrap (x : Int) = (x : Int) := by rw [IntKind.wrap_i64]; omega
      have hw3 : IntKind.i64.wrap ((y : Int) * 4294967296) = (y : Int) * 4294967296 := by rw [IntKind.wrap_i64]; omega
      clear p0 p1 hyV
      generalize nb V = v at *
      generalize l.length = n at *
      go_enter Try.func38, Try.ntmps38
      go_wp2_with (with_reducible refine G.any_mark _ ?_; (try generalize Array.size (World.heap (G.w _)) = bk); (try dsimp only [List.set_cons_zero, List.set_cons_succ]); (try clear g); intro g)
      refine (CK.out _ (G.sl g (by simp) h)).mono ?_
      rintro e w1 ⟨rfl, hb⟩
      obtain ⟨g1, rfl⟩ := G.call_ex _ hb
      clear hb
      (try clear g)
      revert g1
      intro g
      go_wp2_with (with_reducible refine G.any_mark _ ?_; (try generalize Array.size (World.heap (G.w _)) = bk); (try dsimp only [List.set_cons_zero, List.set_cons_succ]); (try clear g); intro g)
      refine (CB.out _ (G.sl g (by simp) h)).mono ?_
      rintro e w1 ⟨rfl, hb⟩
      obtain ⟨g1, rfl⟩ := G.call_ex _ hb
      clear hb
      (try clear g)
      revert g1
      intro g
      go_wp2_with (with_reducible refine G.any_mark _ ?_; (try generalize Array.size (World.heap (G.w _)) = bk); (try dsimp only [List.set_cons_zero, List.set_cons_succ]); (try clear g); intro g)
      refine (CL1.out _ (G.sl g (by simp) h)).mono ?_
      rintro e w1 ⟨rfl, rfl⟩
      go_wp2_with (with_reducible refine G.any_mark _ ?_; (try generalize Array.size (World.heap (G.w _)) = bk); (try dsimp only [List.set_cons_zero, List.set_cons_succ]); (try clear g); intro g)
      refine (CL0.out _ (G.sl g (by simp) h)).mono ?_
      rintro e w1 ⟨rfl, rfl⟩
      go_wp2_with (with_reducible refine G.any_mark _ ?_; (try generalize Array.size (World.heap (G.w _)) = bk); (try dsimp only [List.set_cons_zero, List.set_cons_succ]); (try clear g); intro g)
      go_ret2
      exact ⟨rfl, g.below⟩
  · have hx' : (chk l == 0) = false := by simpa using hx
    have hO : outI (chk l) (val l) = (0, chk l) := by unfold outI; rw [if_pos hx]
    rw [hO]
    clear hO hx
    generalize chk l = r at *
    generalize l.length = n at *
    go_enter Try.func38, Try.ntmps38
    go_wp2_with (with_reducible refine G.any_mark _ ?_; (try generalize Array.size (World.heap (G.w _)) = bk); (try dsimp only [List.set_cons_zero, List.set_cons_succ]); (try clear g); intro g)
    refine (CK.out _ (G.sl g (by simp) h)).mono ?_
    rintro e w1 ⟨rfl, hb⟩
    obtain ⟨g1, rfl⟩ := G.call_ex _ hb
    clear hb
    (try clear g)
    revert g1
    intro g
    go_wp2_with (with_reducible refine G.any_mark _ ?_; (try generalize Array.size (World.heap (G.w _)) = bk); (try dsimp only [List.set_cons_zero, List.set_cons_succ]); (try clear g); intro g)
    go_ret2
    exact ⟨rfl, g.below⟩
theorem drop_lt {l : List Nat} (h : Ok l) (k : Nat) (hv : val l < 9223372036854775808) : val (l.drop (k + 1)) * 4294967296 + l.getD k 0 < 9223372036854775808 := by
  have := val_drop_getD l k
  have h2 := val_div l h k
  have := Nat.div_le_self (val l) (4294967296 ^ k)
  omega
set_option maxRecDepth 20000 in
theorem rInt_any (A : Option Addr) (c : Nat) (l : List Nat) (w : World) (h : SlW w A c l) :
    Calls Try.prog 39 #[.slice A l.length c] w fun e w' => e = .returned (.tuple #[.int .i64 (outI (chk l) (val l)).1, .int .i64 (outI (chk l) (val l)).2]) ∧ Below w.heap.size w w' := by
  refine calls_b fun g => ?_
  have CK := Lib.hid (fun w h => rcheck_any A c l w h)
  by_cases hx : chk l = 0
  · obtain ⟨e1, b1, n1'⟩ := chk_ok h.ok hx
    have CB := Lib.hid (fun w h => rbits_any A c (val l) w h (by rw [← e1]; omega))
    rw [← e1] at CB
    by_cases h63 : 63 < nb (val l)
    · have hO : outI (chk l) (val l) = (0, 5) := by unfold outI; rw [if_neg (by simpa using hx), if_pos h63]
      rw [hO]
      rw [hx] at CK
      have h63i : (63 : Int) < (nb (val l) : Nat) := by omega
      clear hx e1 b1 n1' hO h63
      generalize nb (val l) = v at *
      generalize l.length = n at *
      go_enter Try.func39, Try.ntmps39
      go_wp2_with (with_reducible refine G.any_mark _ ?_; (try generalize Array.size (World.heap (G.w _)) = bk); (try dsimp only [List.set_cons_zero, List.set_cons_succ]); (try clear g); intro g)
      refine (CK.out _ (G.sl g (by simp) h)).mono ?_
      rintro e w1 ⟨rfl, hb⟩
      obtain ⟨g1, rfl⟩ := G.call_ex _ hb
      clear hb
      (try clear g)
      revert g1
      intro g
      go_wp2_with (with_reducible refine G.any_mark _ ?_; (try generalize Array.size (World.heap (G.w _)) = bk); (try dsimp only [List.set_cons_zero, List.set_cons_succ]); (try clear g); intro g)
      refine (CB.out _ (G.sl g (by simp) h)).mono ?_
      rintro e w1 ⟨rfl, hb⟩
      obtain ⟨g1, rfl⟩ := G.call_ex _ hb
      clear hb
      (try clear g)
      revert g1
      intro g
      go_wp2_with (with_reducible refine G.any_mark _ ?_; (try generalize Array.size (World.heap (G.w _)) = bk); (try dsimp only [List.set_cons_zero, List.set_cons_succ]); (try clear g); intro g)
      go_ret2
      exact ⟨rfl, g.below⟩
    · have hO : outI (chk l) (val l) = ((val l : Int), 0) := by unfold outI; rw [if_neg (by simpa using hx), if_neg h63]
      have hv : val l < 9223372036854775808 := by
        have := (nb_le (val l) 63).1 (by omega)
        simpa using this
      have hok := h.ok
      rw [hO]
      rw [hx] at CK
      have h63i : ¬ ((63 : Int) < (nb (val l) : Nat)) := by omega
      have HV := Lib.hid hv
      have n9 : l.length ≤ 256 := n1'
      clear hx e1 b1 n1' hO h63 hv
      generalize nb (val l) = v at *
      obtain ⟨n, hn⟩ : ∃ n, l.length = n := ⟨_, rfl⟩
      rw [hn] at CK CB n9 ⊢
      have HN := Lib.hid hn
      clear hn
      go_enter Try.func39, Try.ntmps39
      go_wp2_with (with_reducible refine G.any_mark _ ?_; (try generalize Array.size (World.heap (G.w _)) = bk); (try dsimp only [List.set_cons_zero, List.set_cons_succ]); (try clear g); intro g)
      refine (CK.out _ (G.sl g (by simp) h)).mono ?_
      rintro e w1 ⟨rfl, hb⟩
      obtain ⟨g1, rfl⟩ := G.call_ex _ hb
      clear hb
      (try clear g)
      revert g1
      intro g
      go_wp2_with (with_reducible refine G.any_mark _ ?_; (try generalize Array.size (World.heap (G.w _)) = bk); (try dsimp only [List.set_cons_zero, List.set_cons_succ]); (try clear g); intro g)
      refine (CB.out _ (G.sl g (by simp) h)).mono ?_
      rintro e w1 ⟨rfl, hb⟩
      obtain ⟨g1, rfl⟩ := G.call_ex _ hb
      clear hb
      (try clear g)
      revert g1
      intro g
      go_wp2_with (with_reducible refine G.any_mark _ ?_; (try generalize Array.size (World.heap (G.w _)) = bk); (try dsimp only [List.set_cons_zero, List.set_cons_succ]); (try clear g); intro g)
      go_loopg [5, 6] n (fun gk s5 s6 wr => gk ≤ n ∧ s6 = .int .i64 ((gk : Int) - 1) ∧ s5 = .int .i64 ((val (l.drop gk) : Nat) : Int) ∧ ∃ g : G w [] [] [heapOf w], wr = g.w)
      case atStart => exact ⟨Nat.le_refl _, rfl, by rw [List.drop_of_length_le (by rw [HN.out]; exact Nat.le_refl _)]; rfl, g, rfl⟩
      case round =>
        clear g CB CK
        obtain ⟨hg, rfl, rfl, g, rfl⟩ := hrel
        cases gk with
        | zero =>
          have HZ : Hid (val (l.drop 0) = val l) := Lib.hid (by rw [List.drop_zero])
          generalize val (l.drop 0) = O at *
          go_wp2_with (with_reducible refine G.any_mark _ ?_; (try generalize Array.size (World.heap (G.w _)) = bk); (try dsimp only [List.set_cons_zero, List.set_cons_succ]); (try clear g); intro g)
          go_ret2
          exact ⟨ret_tup2 (by rw [HZ.out]) rfl, g.below⟩
        | succ k =>
          rw [show ((k + 1 : Nat) : Int) - 1 = (k : Int) by omega]
          obtain ⟨b, o, rfl, hcell⟩ := lim_cells h.lim (by rw [HN.out]; omega)
          have e0 := hcell k (by rw [HN.out]; omega) _ _ _ _ g (by simp)
          clear hcell
          have hd := drop_lt hok k HV.out
          have hdv := val_drop_getD l k
          have hX := hok.getD k
          have hki : (k : Int) < (n : Int) := by omega
          have hk0 : (0 : Int) ≤ (k : Int) := by omega
          generalize val (l.drop (k + 1)) = O at *
          generalize l.getD k 0 = X at *
          obtain ⟨O2, hO2⟩ : ∃ O2, val (l.drop k) = O2 := ⟨_, rfl⟩
          rw [hO2] at hdv
          have hor : bits .or .i64 ((O : Int) * 4294967296) (X : Int) = (O2 : Int) := by
            rw [show (O : Int) * 4294967296 = ((O * 4294967296 : Nat) : Int) by omega, K3.or_i64_comm, K3.or_i64_add _ _ 32 (by omega) (by omega) (by omega) (by omega)]
            omega
          have hw2 : IntKind.i64.wrap (X : Int) = (X : Int) := by rw [IntKind.wrap_i64]; omega
          have hw3 : IntKind.i64.wrap ((O : Int) * 4294967296) = (O : Int) * 4294967296 := by rw [IntKind.wrap_i64]; omega
          have HO2 := Lib.hid hO2
          clear hO2 hdv hd
          go_wp2_with (with_reducible refine G.any_mark _ ?_; (try generalize Array.size (World.heap (G.w _)) = bk); (try dsimp only [List.set_cons_zero, List.set_cons_succ]); (try clear g); intro g)
          go_roundg k
          case measure => omega
          case rel => exact ⟨by omega, rfl, by rw [HO2.out], g, rfl⟩
  · have hx' : (chk l == 0) = false := by simpa using hx
    have hO : outI (chk l) (val l) = (0, chk l) := by unfold outI; rw [if_pos hx]
    rw [hO]
    clear hO hx
    generalize chk l = r at *
    generalize l.length = n at *
    go_enter Try.func39, Try.ntmps39
    go_wp2_with (with_reducible refine G.any_mark _ ?_; (try generalize Array.size (World.heap (G.w _)) = bk); (try dsimp only [List.set_cons_zero, List.set_cons_succ]); (try clear g); intro g)
    refine (CK.out _ (G.sl g (by simp) h)).mono ?_
    rintro e w1 ⟨rfl, hb⟩
    obtain ⟨g1, rfl⟩ := G.call_ex _ hb
    clear hb
    (try clear g)
    revert g1
    intro g
    go_wp2_with (with_reducible refine G.any_mark _ ?_; (try generalize Array.size (World.heap (G.w _)) = bk); (try dsimp only [List.set_cons_zero, List.set_cons_succ]); (try clear g); intro g)
    go_ret2
    exact ⟨rfl, g.below⟩
end Go.Proofs.Ytfifcpgjcgoinaa

set_option exponentiation.threshold 10000
namespace Go.Proofs.Ytfifcpgjcgoinaa
open Go.RowKit GW NL
theorem long_yes (A1 A2 : Option Addr) (c1 c2 n1 n2 : Nat) (w : World) (h1 : n1 ≤ 35184372088832) (h2 : n2 ≤ 35184372088832) (h : 300 < n1 ∨ 300 < n2) :
    Calls Try.prog 33 #[.slice A1 n1 c1, .slice A2 n2 c2] w fun e w' => e = .returned (.bool true) ∧ w = w' := by
  by_cases h3 : 300 < n1
  · have hi : (300 : Int) < (n1 : Int) := by omega
    clear h
    go_enter Try.func33, Try.ntmps33
    go_wp2_with fail
    go_ret
    exact ⟨rfl, rfl⟩
  · have hi : ¬ ((300 : Int) < (n1 : Int)) := by omega
    have hj : (300 : Int) < (n2 : Int) := by omega
    clear h h3
    go_enter Try.func33, Try.ntmps33
    go_wp2_with fail
    go_ret
    exact ⟨rfl, rfl⟩
theorem long_no (A1 A2 : Option Addr) (c1 c2 n1 n2 : Nat) (w : World) (h1 : ¬ 300 < n1) (h2 : ¬ 300 < n2) :
    Calls Try.prog 33 #[.slice A1 n1 c1, .slice A2 n2 c2] w fun e w' => e = .returned (.bool false) ∧ w = w' := by
  have hi : ¬ ((300 : Int) < (n1 : Int)) := by omega
  have hj : ¬ ((300 : Int) < (n2 : Int)) := by omega
  clear h1 h2
  go_enter Try.func33, Try.ntmps33
  go_wp2_with fail
  go_ret
  exact ⟨rfl, rfl⟩
set_option maxRecDepth 100000 in
set_option maxHeartbeats 2000000 in
theorem sums_walk (A1 A2 : Option Addr) (c1 c2 : Nat) (l1 l2 : List Nat) (n : Int) (w : World) (h1 : SlW w A1 c1 l1) (h2 : SlW w A2 c2 l2) (hl1 : l1.length ≤ 35184372088832) (hl2 : l2.length ≤ 35184372088832) :
    Calls Try.prog 8 #[.slice A1 l1.length c1, .slice A2 l2.length c2, .int .i64 n] w fun e w' => e = .returned (.bool true) ∧ Below w.heap.size w w' := by
  refine calls_b fun g => ?_
  have CL := Lib.hid lives_any
  by_cases hlong : 300 < l1.length ∨ 300 < l2.length
  · have CY := Lib.hid (fun w => long_yes A1 A2 c1 c2 l1.length l2.length w hl1 hl2 hlong)
    clear hlong
    generalize l1.length = n1 at *
    generalize l2.length = n2 at *
    go_enter Try.func8, Try.ntmps8
    go_wp2_with (with_reducible refine G.any_mark _ ?_; (try generalize Array.size (World.heap (G.w _)) = bk); (try dsimp only [List.set_cons_zero, List.set_cons_succ]); (try clear g); intro g)
    refine (CL.out _).mono ?_
    rintro e w1 ⟨rfl, hb⟩
    obtain ⟨g1, rfl⟩ := G.call_ex _ hb
    clear hb
    (try clear g)
    revert g1
    intro g
    go_wp2_with (with_reducible refine G.any_mark _ ?_; (try generalize Array.size (World.heap (G.w _)) = bk); (try dsimp only [List.set_cons_zero, List.set_cons_succ]); (try clear g); intro g)
    refine (CY.out _).mono ?_
    rintro e w1 ⟨rfl, rfl⟩
    go_wp2_with (with_reducible refine G.any_mark _ ?_; (try generalize Array.size (World.heap (G.w _)) = bk); (try dsimp only [List.set_cons_zero, List.set_cons_succ]); (try clear g); intro g)
    go_ret
    exact ⟨rfl, g.below⟩
  · have CY := Lib.hid (fun w => long_no A1 A2 c1 c2 l1.length l2.length w (by omega) (by omega))
    have CO1 := Lib.hid (fun w h => own_any A1 c1 l1 w h hl1)
    have CO2 := Lib.hid (fun w h => own_any A2 c2 l2 w h hl2)
    have k1 : l1.length ≤ 300 := by omega
    have k2 : l2.length ≤ 300 := by omega
    have CA := Lib.hid (fun w h1 h2 => Add_any A1 A2 c1 c2 l1 l2 w h1 h2 (by omega) (by omega))
    have CB := Lib.hid (fun A1 A2 c1 c2 w h1 h2 => rAdd_any A1 A2 c1 c2 l1 l2 w h1 h2)
    have CC := Lib.hid (fun w h1 h2 => Sub_any A1 A2 c1 c2 l1 l2 w h1 h2)
    have CD := Lib.hid (fun A1 A2 c1 c2 w h1 h2 => rSub_any A1 A2 c1 c2 l1 l2 w h1 h2)
    have CE := Lib.hid (fun w h1 h2 => Mul_any A1 A2 c1 c2 l1 l2 w h1 h2 (by omega) (by omega))
    have CF := Lib.hid (fun A1 A2 c1 c2 w h1 h2 => rMul_any A1 A2 c1 c2 l1 l2 w h1 h2)
    have CG := Lib.hid (fun w h1 => Shift_any A1 c1 l1 n w h1)
    have CH := Lib.hid (fun A1 c1 w h1 => rShift_any A1 c1 l1 n w h1)
    have CI := Lib.hid (fun w h1 => Int_any A1 c1 l1 w h1)
    have CJ := Lib.hid (fun A1 c1 w h1 => rInt_any A1 c1 l1 w h1)
    have CK := Lib.hid (fun w h1 => nBits_any A1 c1 l1 w h1)
    have CM := Lib.hid (fun A1 c1 w h1 => rBits_any A1 c1 l1 w h1)
    have CN := Lib.hid (fun w h1 h2 => Cmp_any A1 A2 c1 c2 l1 l2 w h1 h2)
    have CP := Lib.hid (fun A1 A2 c1 c2 w h1 h2 => rCmp_any A1 A2 c1 c2 l1 l2 w h1 h2)
    have CQ := Lib.hid (fun w h1 => check_any A1 c1 l1 w h1)
    have CR := Lib.hid (fun A1 c1 w h1 => rcheck_any A1 c1 l1 w h1)
    have CS1 := Lib.hid (fun A2 c2 w h1 h2 => same_any A1 A2 c1 c2 l1 w h1 h2)
    have CS2 := Lib.hid (fun B2 d2 w h1 h2 => same_any A2 B2 c2 d2 l2 w h1 h2)
    have CS := Lib.hid (fun v => same_rv v)
    unfold RLim at CO1 CO2
    generalize outN (chk2 l1 l2) (val l1 + val l2) = p1 at *
    generalize outS (chk2 l1 l2) (val l1) (val l2) = p2 at *
    generalize outN (chk2 l1 l2) (val l1 * val l2) = p3 at *
    generalize outH (chk l1) (val l1) n = p4 at *
    generalize outI (chk l1) (val l1) = p5 at *
    generalize outB (chk l1) (val l1) = p6 at *
    generalize outC (chk2 l1 l2) (ord (val l1) (val l2)) = p7 at *
    generalize chk l1 = p8 at *
    obtain ⟨r1, x1⟩ := p1
    obtain ⟨r2, x2⟩ := p2
    obtain ⟨r3, x3⟩ := p3
    obtain ⟨r4, x4⟩ := p4
    obtain ⟨r5, x5⟩ := p5
    obtain ⟨r6, x6⟩ := p6
    obtain ⟨r7, x7⟩ := p7
    clear hlong k1 k2
    generalize l1.length = n1 at *
    generalize l2.length = n2 at *
    go_enter Try.func8, Try.ntmps8
    go_wp2_with (with_reducible refine G.any_mark _ ?_; (try generalize Array.size (World.heap (G.w _)) = bk); (try dsimp only [List.set_cons_zero, List.set_cons_succ]); (try clear g); intro g)
    refine (CL.out _).mono ?_
    rintro e w1 ⟨rfl, hb⟩
    obtain ⟨g1, rfl⟩ := G.call_ex _ hb
    clear hb
    (try clear g)
    revert g1
    intro g
    go_wp2_with (with_reducible refine G.any_mark _ ?_; (try generalize Array.size (World.heap (G.w _)) = bk); (try dsimp only [List.set_cons_zero, List.set_cons_succ]); (try clear g); intro g)
    refine (CY.out _).mono ?_
    rintro e w1 ⟨rfl, rfl⟩
    go_wp2_with (with_reducible refine G.any_mark _ ?_; (try generalize Array.size (World.heap (G.w _)) = bk); (try dsimp only [List.set_cons_zero, List.set_cons_succ]); (try clear g); intro g)
    refine (CO1.out _ (G.sl g (by simp) h1)).mono ?_
    rintro e w1 ⟨Au, cu, Fu, rfl, hsu, hn⟩
    have hnnu := fun k o hk => Nat.le_trans g.chg.size (hn.new k o hk)
    obtain ⟨g1, rfl⟩ := G.new_ex _ hn
    clear hn
    (try clear g)
    revert g1
    intro g
    go_wp2_with (with_reducible refine G.any_mark _ ?_; (try generalize Array.size (World.heap (G.w _)) = bk); (try dsimp only [List.set_cons_zero, List.set_cons_succ]); (try clear g); intro g)
    refine (CO2.out _ (G.sl g (by simp) h2)).mono ?_
    rintro e w1 ⟨Av, cv, Fv, rfl, hsv, hn⟩
    have hnnv := fun k o hk => Nat.le_trans g.chg.size (hn.new k o hk)
    obtain ⟨g1, rfl⟩ := G.new_ex _ hn
    clear hn
    (try clear g)
    revert g1
    intro g
    go_wp2_with (with_reducible refine G.any_mark _ ?_; (try generalize Array.size (World.heap (G.w _)) = bk); (try dsimp only [List.set_cons_zero, List.set_cons_succ]); (try clear g); intro g)
    refine (CA.out _ (G.sl g (by simp) h1) (G.sl g (by simp) h2)).mono ?_
    rintro e w1 ⟨Aa, ca, Fa, rfl, hsa, hn⟩
    (try dsimp only at hsa)
    have hnna := fun k o hk => Nat.le_trans g.chg.size (hn.new k o hk)
    obtain ⟨g1, rfl⟩ := G.new_ex _ hn
    clear hn
    (try clear g)
    revert g1
    intro g
    go_wp2_with (with_reducible refine G.any_mark _ ?_; (try generalize Array.size (World.heap (G.w _)) = bk); (try dsimp only [List.set_cons_zero, List.set_cons_succ]); (try clear g); intro g)
    refine (CB.out _ _ _ _ _ (G.sl g (by simp) hsu) (G.sl g (by simp) hsv)).mono ?_
    rintro e w1 ⟨Ab, cb, Fb, rfl, hsb, hn⟩
    (try dsimp only at hsb)
    have hnnb := fun k o hk => Nat.le_trans g.chg.size (hn.new k o hk)
    obtain ⟨g1, rfl⟩ := G.new_ex _ hn
    clear hn
    (try clear g)
    revert g1
    intro g
    go_wp2_with (with_reducible refine G.any_mark _ ?_; (try generalize Array.size (World.heap (G.w _)) = bk); (try dsimp only [List.set_cons_zero, List.set_cons_succ]); (try clear g); intro g)
    refine (CC.out _ (G.sl g (by simp) h1) (G.sl g (by simp) h2)).mono ?_
    rintro e w1 ⟨Ac, cc, Fc, rfl, hsc, hn⟩
    (try dsimp only at hsc)
    have hnnc := fun k o hk => Nat.le_trans g.chg.size (hn.new k o hk)
    obtain ⟨g1, rfl⟩ := G.new_ex _ hn
    clear hn
    (try clear g)
    revert g1
    intro g
    go_wp2_with (with_reducible refine G.any_mark _ ?_; (try generalize Array.size (World.heap (G.w _)) = bk); (try dsimp only [List.set_cons_zero, List.set_cons_succ]); (try clear g); intro g)
    refine (CD.out _ _ _ _ _ (G.sl g (by simp) hsu) (G.sl g (by simp) hsv)).mono ?_
    rintro e w1 ⟨Ad, cd, Fd, rfl, hsd, hn⟩
    (try dsimp only at hsd)
    have hnnd := fun k o hk => Nat.le_trans g.chg.size (hn.new k o hk)
    obtain ⟨g1, rfl⟩ := G.new_ex _ hn
    clear hn
    (try clear g)
    revert g1
    intro g
    go_wp2_with (with_reducible refine G.any_mark _ ?_; (try generalize Array.size (World.heap (G.w _)) = bk); (try dsimp only [List.set_cons_zero, List.set_cons_succ]); (try clear g); intro g)
    refine (CE.out _ (G.sl g (by simp) h1) (G.sl g (by simp) h2)).mono ?_
    rintro e w1 ⟨Ae, ce, Fe, rfl, hse, hn⟩
    (try dsimp only at hse)
    have hnne := fun k o hk => Nat.le_trans g.chg.size (hn.new k o hk)
    obtain ⟨g1, rfl⟩ := G.new_ex _ hn
    clear hn
    (try clear g)
    revert g1
    intro g
    go_wp2_with (with_reducible refine G.any_mark _ ?_; (try generalize Array.size (World.heap (G.w _)) = bk); (try dsimp only [List.set_cons_zero, List.set_cons_succ]); (try clear g); intro g)
    refine (CF.out _ _ _ _ _ (G.sl g (by simp) hsu) (G.sl g (by simp) hsv)).mono ?_
    rintro e w1 ⟨Af, cf, Ff, rfl, hsf, hn⟩
    (try dsimp only at hsf)
    have hnnf := fun k o hk => Nat.le_trans g.chg.size (hn.new k o hk)
    obtain ⟨g1, rfl⟩ := G.new_ex _ hn
    clear hn
    (try clear g)
    revert g1
    intro g
    go_wp2_with (with_reducible refine G.any_mark _ ?_; (try generalize Array.size (World.heap (G.w _)) = bk); (try dsimp only [List.set_cons_zero, List.set_cons_succ]); (try clear g); intro g)
    refine (CG.out _ (G.sl g (by simp) h1)).mono ?_
    rintro e w1 ⟨Ag, cg, Fg, rfl, hsg, hn⟩
    (try dsimp only at hsg)
    have hnng := fun k o hk => Nat.le_trans g.chg.size (hn.new k o hk)
    obtain ⟨g1, rfl⟩ := G.new_ex _ hn
    clear hn
    (try clear g)
    revert g1
    intro g
    go_wp2_with (with_reducible refine G.any_mark _ ?_; (try generalize Array.size (World.heap (G.w _)) = bk); (try dsimp only [List.set_cons_zero, List.set_cons_succ]); (try clear g); intro g)
    refine (CH.out _ _ _ (G.sl g (by simp) hsu)).mono ?_
    rintro e w1 ⟨Ah, ch, Fh, rfl, hsh, hn⟩
    (try dsimp only at hsh)
    have hnnh := fun k o hk => Nat.le_trans g.chg.size (hn.new k o hk)
    obtain ⟨g1, rfl⟩ := G.new_ex _ hn
    clear hn
    (try clear g)
    revert g1
    intro g
    go_wp2_with (with_reducible refine G.any_mark _ ?_; (try generalize Array.size (World.heap (G.w _)) = bk); (try dsimp only [List.set_cons_zero, List.set_cons_succ]); (try clear g); intro g)
    refine (CI.out _ (G.sl g (by simp) h1)).mono ?_
    rintro e w1 ⟨rfl, hb⟩
    obtain ⟨g1, rfl⟩ := G.call_ex _ hb
    clear hb
    (try clear g)
    revert g1
    intro g
    go_wp2_with (with_reducible refine G.any_mark _ ?_; (try generalize Array.size (World.heap (G.w _)) = bk); (try dsimp only [List.set_cons_zero, List.set_cons_succ]); (try clear g); intro g)
    refine (CJ.out _ _ _ (G.sl g (by simp) hsu)).mono ?_
    rintro e w1 ⟨rfl, hb⟩
    obtain ⟨g1, rfl⟩ := G.call_ex _ hb
    clear hb
    (try clear g)
    revert g1
    intro g
    go_wp2_with (with_reducible refine G.any_mark _ ?_; (try generalize Array.size (World.heap (G.w _)) = bk); (try dsimp only [List.set_cons_zero, List.set_cons_succ]); (try clear g); intro g)
    refine (CK.out _ (G.sl g (by simp) h1)).mono ?_
    rintro e w1 ⟨rfl, hb⟩
    obtain ⟨g1, rfl⟩ := G.call_ex _ hb
    clear hb
    (try clear g)
    revert g1
    intro g
    go_wp2_with (with_reducible refine G.any_mark _ ?_; (try generalize Array.size (World.heap (G.w _)) = bk); (try dsimp only [List.set_cons_zero, List.set_cons_succ]); (try clear g); intro g)
    refine (CM.out _ _ _ (G.sl g (by simp) hsu)).mono ?_
    rintro e w1 ⟨rfl, hb⟩
    obtain ⟨g1, rfl⟩ := G.call_ex _ hb
    clear hb
    (try clear g)
    revert g1
    intro g
    go_wp2_with (with_reducible refine G.any_mark _ ?_; (try generalize Array.size (World.heap (G.w _)) = bk); (try dsimp only [List.set_cons_zero, List.set_cons_succ]); (try clear g); intro g)
    refine (CN.out _ (G.sl g (by simp) h1) (G.sl g (by simp) h2)).mono ?_
    rintro e w1 ⟨rfl, hb⟩
    obtain ⟨g1, rfl⟩ := G.call_ex _ hb
    clear hb
    (try clear g)
    revert g1
    intro g
    go_wp2_with (with_reducible refine G.any_mark _ ?_; (try generalize Array.size (World.heap (G.w _)) = bk); (try dsimp only [List.set_cons_zero, List.set_cons_succ]); (try clear g); intro g)
    refine (CP.out _ _ _ _ _ (G.sl g (by simp) hsu) (G.sl g (by simp) hsv)).mono ?_
    rintro e w1 ⟨rfl, hb⟩
    obtain ⟨g1, rfl⟩ := G.call_ex _ hb
    clear hb
    (try clear g)
    revert g1
    intro g
    go_wp2_with (with_reducible refine G.any_mark _ ?_; (try generalize Array.size (World.heap (G.w _)) = bk); (try dsimp only [List.set_cons_zero, List.set_cons_succ]); (try clear g); intro g)
    refine (CQ.out _ (G.sl g (by simp) h1)).mono ?_
    rintro e w1 ⟨rfl, hb⟩
    obtain ⟨g1, rfl⟩ := G.call_ex _ hb
    clear hb
    (try clear g)
    revert g1
    intro g
    go_wp2_with (with_reducible refine G.any_mark _ ?_; (try generalize Array.size (World.heap (G.w _)) = bk); (try dsimp only [List.set_cons_zero, List.set_cons_succ]); (try clear g); intro g)
    refine (CR.out _ _ _ (G.sl g (by simp) hsu)).mono ?_
    rintro e w1 ⟨rfl, hb⟩
    obtain ⟨g1, rfl⟩ := G.call_ex _ hb
    clear hb
    (try clear g)
    revert g1
    intro g
    go_wp2_with (with_reducible refine G.any_mark _ ?_; (try generalize Array.size (World.heap (G.w _)) = bk); (try dsimp only [List.set_cons_zero, List.set_cons_succ]); (try clear g); intro g)
    refine (CS1.out _ _ _ (G.sl g (by simp) h1) (G.sl g (by simp) hsu)).mono ?_
    rintro e w1 ⟨rfl, hb⟩
    obtain ⟨g1, rfl⟩ := G.call_ex _ hb
    clear hb
    (try clear g)
    revert g1
    intro g
    go_wp2_with (with_reducible refine G.any_mark _ ?_; (try generalize Array.size (World.heap (G.w _)) = bk); (try dsimp only [List.set_cons_zero, List.set_cons_succ]); (try clear g); intro g)
    refine (CS2.out _ _ _ (G.sl g (by simp) h2) (G.sl g (by simp) hsv)).mono ?_
    rintro e w1 ⟨rfl, hb⟩
    obtain ⟨g1, rfl⟩ := G.call_ex _ hb
    clear hb
    (try clear g)
    revert g1
    intro g
    go_wp2_with (with_reducible refine G.any_mark _ ?_; (try generalize Array.size (World.heap (G.w _)) = bk); (try dsimp only [List.set_cons_zero, List.set_cons_succ]); (try clear g); intro g)
    refine (CS.out _ _ _ _ _ _ (G.sl g (by simp) hsa) (G.sl g (by simp) hsb)).mono ?_
    rintro e w1 ⟨rfl, hb⟩
    obtain ⟨g1, rfl⟩ := G.call_ex _ hb
    clear hb
    (try clear g)
    revert g1
    intro g
    go_wp2_with (with_reducible refine G.any_mark _ ?_; (try generalize Array.size (World.heap (G.w _)) = bk); (try dsimp only [List.set_cons_zero, List.set_cons_succ]); (try clear g); intro g)
    refine (CS.out _ _ _ _ _ _ (G.sl g (by simp) hsc) (G.sl g (by simp) hsd)).mono ?_
    rintro e w1 ⟨rfl, hb⟩
    obtain ⟨g1, rfl⟩ := G.call_ex _ hb
    clear hb
    (try clear g)
    revert g1
    intro g
    go_wp2_with (with_reducible refine G.any_mark _ ?_; (try generalize Array.size (World.heap (G.w _)) = bk); (try dsimp only [List.set_cons_zero, List.set_cons_succ]); (try clear g); intro g)
    refine (CS.out _ _ _ _ _ _ (G.sl g (by simp) hse) (G.sl g (by simp) hsf)).mono ?_
    rintro e w1 ⟨rfl, hb⟩
    obtain ⟨g1, rfl⟩ := G.call_ex _ hb
    clear hb
    (try clear g)
    revert g1
    intro g
    go_wp2_with (with_reducible refine G.any_mark _ ?_; (try generalize Array.size (World.heap (G.w _)) = bk); (try dsimp only [List.set_cons_zero, List.set_cons_succ]); (try clear g); intro g)
    refine (CS.out _ _ _ _ _ _ (G.sl g (by simp) hsg) (G.sl g (by simp) hsh)).mono ?_
    rintro e w1 ⟨rfl, hb⟩
    obtain ⟨g1, rfl⟩ := G.call_ex _ hb
    clear hb
    (try clear g)
    revert g1
    intro g
    go_wp2_with (with_reducible refine G.any_mark _ ?_; (try generalize Array.size (World.heap (G.w _)) = bk); (try dsimp only [List.set_cons_zero, List.set_cons_succ]); (try clear g); intro g)
    go_ret
    exact ⟨rfl, g.below⟩
end Go.Proofs.Ytfifcpgjcgoinaa
