/- Contracts of functions of the program, out of walks. Their conditions stand ahead of each. -/
import Derived.Test.YtfifcpgjcgoinaaN27
set_option linter.unusedVariables false
set_option linter.unusedSimpArgs false
set_option exponentiation.threshold 10000
namespace Go.Proofs.Ytfifcpgjcgoinaa
open Go.RowKit GW NL
theorem Shift_err (A : Option Addr) (c : Nat) (l : List Nat) (n : Int) (w : World) (h : SlW w A c l) (hx : chk l ≠ 0) :
    Calls Try.prog 27 #[.slice A l.length c, .int .i64 n] w (RNE (0, chk l) w) := by
  refine calls_b fun g => ?_
  have C1 := Lib.hid (fun w h => check_any A c l w h)
  have hx' : (chk l == 0) = false := by simpa using hx
  clear hx
  generalize chk l = r at *
  generalize l.length = k at *
  go_enter Try.func27, Try.ntmps27
  go_wp2_with (with_reducible refine G.any_mark _ ?_; (try generalize Array.size (World.heap (G.w _)) = bk); (try dsimp only [List.set_cons_zero, List.set_cons_succ]); (try clear g); intro g)
  refine (C1.out _ (G.sl g (by simp) h)).mono ?_
  rintro e w1 ⟨rfl, hb⟩
  obtain ⟨g1, rfl⟩ := G.call_ex _ hb
  clear hb
  (try clear g)
  revert g1
  intro g
  go_wp2_with (with_reducible refine G.any_mark _ ?_; (try generalize Array.size (World.heap (G.w _)) = bk); (try dsimp only [List.set_cons_zero, List.set_cons_succ]); (try clear g); intro g)
  go_ret2
  exact rne_err g r
theorem Shift_range (A : Option Addr) (c : Nat) (l : List Nat) (n : Int) (w : World) (h : SlW w A c l) (hx : chk l = 0) (hn : n < -10000 ∨ 10000 < n) :
    Calls Try.prog 27 #[.slice A l.length c, .int .i64 n] w (RNE (0, 2) w) := by
  refine calls_b fun g => ?_
  have C1 := Lib.hid (fun w h => check_any A c l w h)
  rw [hx] at C1
  clear hx
  generalize l.length = k at *
  rcases Decidable.em (n < -10000) with h1 | h1
  · clear hn
    have h1' : decide (n < -10000) = true := decide_eq_true h1
    clear h1
    go_enter Try.func27, Try.ntmps27
    go_wp2_with (with_reducible refine G.any_mark _ ?_; (try generalize Array.size (World.heap (G.w _)) = bk); (try dsimp only [List.set_cons_zero, List.set_cons_succ]); (try clear g); intro g)
    refine (C1.out _ (G.sl g (by simp) h)).mono ?_
    rintro e w1 ⟨rfl, hb⟩
    obtain ⟨g1, rfl⟩ := G.call_ex _ hb
    clear hb
    (try clear g)
    revert g1
    intro g
    go_wp2_with (with_reducible refine G.any_mark _ ?_; (try generalize Array.size (World.heap (G.w _)) = bk); (try dsimp only [List.set_cons_zero, List.set_cons_succ]); (try clear g); intro g)
    go_ret2
    exact rne_err g 2
  · have h2 : 10000 < n := by omega
    have h1' : decide (n < -10000) = false := decide_eq_false h1
    clear h1 hn
    go_enter Try.func27, Try.ntmps27
    go_wp2_with (with_reducible refine G.any_mark _ ?_; (try generalize Array.size (World.heap (G.w _)) = bk); (try dsimp only [List.set_cons_zero, List.set_cons_succ]); (try clear g); intro g)
    refine (C1.out _ (G.sl g (by simp) h)).mono ?_
    rintro e w1 ⟨rfl, hb⟩
    obtain ⟨g1, rfl⟩ := G.call_ex _ hb
    clear hb
    (try clear g)
    revert g1
    intro g
    go_wp2_with (with_reducible refine G.any_mark _ ?_; (try generalize Array.size (World.heap (G.w _)) = bk); (try dsimp only [List.set_cons_zero, List.set_cons_succ]); (try clear g); intro g)
    go_ret2
    exact rne_err g 2
theorem Shift_core (A : Option Addr) (c v : Nat) (n : Int) (R : Nat) (w : World) (h : SlW w A c (limbs v)) (hv : v < 2 ^ 8192) (hn1 : -10000 ≤ n) (hn2 : n ≤ 10000)
    (CS : ∀ w, SlW w A c (limbs v) → Calls Try.prog 66 #[.slice A (limbs v).length c, .int .i64 n] w (RNat R w)) :
    Calls Try.prog 27 #[.slice A (limbs v).length c, .int .i64 n] w (RNE (outN 0 R) w) := by
  refine calls_b fun g => ?_
  have C1 := Lib.hid (fun w h => check_any A c (limbs v) w h)
  rw [chk_limbs hv] at C1
  have CS := Lib.hid CS
  have CY := Lib.hid (fun A c w h hv => fits_yes A c R w h hv)
  have CN := Lib.hid (fun A c w h hv => fits_no A c R w h hv)
  have h1' : decide (n < -10000) = false := decide_eq_false (by omega)
  have h2' : decide (10000 < n) = false := decide_eq_false (by omega)
  have h3 : ¬ (n < -10000) := by omega
  have h4 : ¬ (10000 < n) := by omega
  clear hv hn1 hn2
  generalize (limbs v).length = k at *
  rcases Decidable.em (R < 2 ^ 8192) with hR | hR
  · have hO : outN 0 R = (R, 0) := by unfold outN; rw [if_neg (by simp), if_pos hR]
    rw [hO]
    have HR := Lib.hid hR
    clear hO hR
    go_enter Try.func27, Try.ntmps27
    go_wp2_with (with_reducible refine G.any_mark _ ?_; (try generalize Array.size (World.heap (G.w _)) = bk); (try dsimp only [List.set_cons_zero, List.set_cons_succ]); (try clear g); intro g)
    refine (C1.out _ (G.sl g (by simp) h)).mono ?_
    rintro e w1 ⟨rfl, hb⟩
    obtain ⟨g1, rfl⟩ := G.call_ex _ hb
    clear hb
    (try clear g)
    revert g1
    intro g
    go_wp2_with (with_reducible refine G.any_mark _ ?_; (try generalize Array.size (World.heap (G.w _)) = bk); (try dsimp only [List.set_cons_zero, List.set_cons_succ]); (try clear g); intro g)
    refine (CS.out _ (G.sl g (by simp) h)).mono ?_
    rintro e w1 ⟨Ax, cx, Fx, rfl, hsx, hn⟩
    have hnnx := fun k o hk => Nat.le_trans g.chg.size (hn.new k o hk)
    obtain ⟨g1, rfl⟩ := G.new_ex _ hn
    clear hn
    (try clear g)
    revert g1
    intro g
    go_wp2_with (with_reducible refine G.any_mark _ ?_; (try generalize Array.size (World.heap (G.w _)) = bk); (try dsimp only [List.set_cons_zero, List.set_cons_succ]); (try clear g); intro g)
    refine (CY.out _ _ _ (G.sl g (by simp) hsx) HR.out).mono ?_
    rintro e w1 ⟨rfl, hb⟩
    obtain ⟨g1, rfl⟩ := G.call_ex _ hb
    clear hb
    (try clear g)
    revert g1
    intro g
    go_wp2_with (with_reducible refine G.any_mark _ ?_; (try generalize Array.size (World.heap (G.w _)) = bk); (try dsimp only [List.set_cons_zero, List.set_cons_succ]); (try clear g); intro g)
    go_ret2
    exact rne_pass g hsx (by simp) hnnx 0
  · have hO : outN 0 R = (0, 5) := by unfold outN; rw [if_neg (by simp), if_neg hR]
    rw [hO]
    have HR := Lib.hid hR
    clear hO hR
    go_enter Try.func27, Try.ntmps27
    go_wp2_with (with_reducible refine G.any_mark _ ?_; (try generalize Array.size (World.heap (G.w _)) = bk); (try dsimp only [List.set_cons_zero, List.set_cons_succ]); (try clear g); intro g)
    refine (C1.out _ (G.sl g (by simp) h)).mono ?_
    rintro e w1 ⟨rfl, hb⟩
    obtain ⟨g1, rfl⟩ := G.call_ex _ hb
    clear hb
    (try clear g)
    revert g1
    intro g
    go_wp2_with (with_reducible refine G.any_mark _ ?_; (try generalize Array.size (World.heap (G.w _)) = bk); (try dsimp only [List.set_cons_zero, List.set_cons_succ]); (try clear g); intro g)
    refine (CS.out _ (G.sl g (by simp) h)).mono ?_
    rintro e w1 ⟨Ax, cx, Fx, rfl, hsx, hn⟩
    have hnnx := fun k o hk => Nat.le_trans g.chg.size (hn.new k o hk)
    obtain ⟨g1, rfl⟩ := G.new_ex _ hn
    clear hn
    (try clear g)
    revert g1
    intro g
    go_wp2_with (with_reducible refine G.any_mark _ ?_; (try generalize Array.size (World.heap (G.w _)) = bk); (try dsimp only [List.set_cons_zero, List.set_cons_succ]); (try clear g); intro g)
    refine (CN.out _ _ _ (G.sl g (by simp) hsx) HR.out).mono ?_
    rintro e w1 ⟨rfl, hb⟩
    obtain ⟨g1, rfl⟩ := G.call_ex _ hb
    clear hb
    (try clear g)
    revert g1
    intro g
    go_wp2_with (with_reducible refine G.any_mark _ ?_; (try generalize Array.size (World.heap (G.w _)) = bk); (try dsimp only [List.set_cons_zero, List.set_cons_succ]); (try clear g); intro g)
    go_ret2
    exact rne_err g 5
theorem Shift_up (A : Option Addr) (c v s : Nat) (w : World) (h : SlW w A c (limbs v)) (hv : v < 2 ^ 8192) (hs : s ≤ 10000) :
    Calls Try.prog 27 #[.slice A (limbs v).length c, .int .i64 (s : Int)] w (RNE (outN 0 (v * 2 ^ s)) w) := by
  have hl : (limbs v).length ≤ 256 := (limbs_len v 256).2 (by rw [pow32]; exact hv)
  refine Shift_core A c v s (v * 2 ^ s) w h hv (by omega) (by omega) fun w h => ?_
  have := shift_up A c (limbs v) s w h (by omega) (by omega)
  rwa [val_limbs] at this
theorem Shift_down (A : Option Addr) (c v s : Nat) (w : World) (h : SlW w A c (limbs v)) (hv : v < 2 ^ 8192) (hs : s ≤ 10000) :
    Calls Try.prog 27 #[.slice A (limbs v).length c, .int .i64 (-(s : Int))] w (RNE (v / 2 ^ s, 0) w) := by
  have hl : (limbs v).length ≤ 256 := (limbs_len v 256).2 (by rw [pow32]; exact hv)
  have key := Shift_core A c v (-(s : Int)) (v / 2 ^ s) w h hv (by omega) (by omega) fun w h => by
    by_cases h0 : s = 0
    · subst h0
      have := shift_up A c (limbs v) 0 w h (by omega) (by omega)
      rw [val_limbs] at this
      simpa using this
    · have := shift_down A c (limbs v) s (-(s : Int)) w h (by omega) (by omega) (by omega) (by omega)
      rwa [val_limbs] at this
  have hO : outN 0 (v / 2 ^ s) = (v / 2 ^ s, 0) := by unfold outN; rw [if_neg (by simp), if_pos (Nat.lt_of_le_of_lt (Nat.div_le_self _ _) hv)]
  rwa [hO] at key
/-- what Shift returns -/
def outH (e : Int) (v : Nat) (n : Int) : Nat × Int := if e ≠ 0 then (0, e) else if n < -10000 ∨ 10000 < n then (0, 2) else if n < 0 then (v / 2 ^ n.natAbs, 0) else outN 0 (v * 2 ^ n.natAbs)
theorem Shift_any (A : Option Addr) (c : Nat) (l : List Nat) (n : Int) (w : World) (h : SlW w A c l) :
    Calls Try.prog 27 #[.slice A l.length c, .int .i64 n] w (RNE (outH (chk l) (val l) n) w) := by
  unfold outH
  by_cases hx : chk l = 0
  · rw [if_neg (by simpa using hx)]
    by_cases hn : n < -10000 ∨ 10000 < n
    · rw [if_pos hn]
      exact Shift_range A c l n w h hx hn
    · rw [if_neg hn]
      obtain ⟨e1, b1, _⟩ := chk_ok h.ok hx
      by_cases h0 : n < 0
      · rw [if_pos h0]
        have := Shift_down A c (val l) n.natAbs w (by rw [← e1]; exact h) b1 (by omega)
        rw [← e1, show (-(n.natAbs : Int)) = n by omega] at this
        exact this
      · rw [if_neg h0]
        have := Shift_up A c (val l) n.natAbs w (by rw [← e1]; exact h) b1 (by omega)
        rw [← e1, show ((n.natAbs : Nat) : Int) = n by omega] at this
        exact this
  · rw [if_pos hx]
    exact Shift_err A c l n w h hx
theorem pick_any (x : Int) (h1 : -9223372036854775808 ≤ x) (h2 : x ≤ 9223372036854775807) (w : World) : Calls Try.prog 26 #[.int .i64 x, .int .i64 500] w fun e w' => ∃ k : Nat, k < 500 ∧ e = .returned (.int .i64 k) ∧ w = w' := by
  obtain ⟨T, hT⟩ : ∃ T, Int.tmod x 500 = T := ⟨_, rfl⟩
  have b1 : T < 500 := by rw [← hT]; exact Int.tmod_lt_of_pos _ (by decide)
  have b2 : -500 < T := by rw [← hT]; have := Int.lt_tmod_of_pos x (b := 500) (by decide); omega
  by_cases h0 : T < 0
  · obtain ⟨k, hk⟩ : ∃ k : Nat, T + 500 = (k : Int) := ⟨(T + 500).toNat, by omega⟩
    have hw : IntKind.i64.wrap (k : Int) = (k : Int) := by rw [IntKind.wrap_i64]; omega
    have hw2 : IntKind.i64.wrap T = T := by rw [IntKind.wrap_i64]; omega
    go_enter Try.func26, Try.ntmps26
    go_wp2_with fail
    go_ret
    exact ⟨k, by omega, rfl, rfl⟩
  · obtain ⟨k, hk⟩ : ∃ k : Nat, T = (k : Int) := ⟨T.toNat, by omega⟩
    subst hk
    have hw2 : IntKind.i64.wrap (k : Int) = (k : Int) := by rw [IntKind.wrap_i64]; omega
    go_enter Try.func26, Try.ntmps26
    go_wp2_with fail
    go_ret
    exact ⟨k, by omega, rfl, rfl⟩
end Go.Proofs.Ytfifcpgjcgoinaa
