/- Contracts of functions of the program and of its reference, out of walks. Their conditions stand ahead of each. -/
import Derived.Test.YtgehbebjgmeccaaW60
import Derived.Test.YtgehbebjgmeccaaW29
set_option linter.unusedVariables false
set_option linter.unusedSimpArgs false
namespace Go.Proofs.Ytgehbebjgmeccaa
open Go.RowKit GW
theorem near_plain (P K : Int) (p0 : 0 ≤ P) (p1 : P ≤ 8796093022208) (k0 : 1 ≤ K) (k1 : K ≤ 2097152) :
    ∃ M Q R : Int, Fx.hup P K = M ∧ M * K = Q ∧ 0 ≤ M ∧ M ≤ 8796093022209 ∧ IntKind.i64.wrap Q = Q ∧ IntKind.i64.wrap (Q - P) = Q - P ∧ IntKind.i64.wrap (2 * (Q - P)) = R ∧ IntKind.i64.wrap (-K) = -K ∧ -K < R ∧ R ≤ K := by
  have hu := hup_le2 P K p0 k0
  have e := Int.mul_ediv_add_emod (2 * P + K) (2 * K)
  have f := Int.emod_nonneg (2 * P + K) (show 2 * K ≠ 0 by omega)
  have f' := Int.emod_lt_of_pos (2 * P + K) (show 0 < 2 * K by omega)
  have hq : 2 * K * ((2 * P + K) / (2 * K)) = 2 * (Fx.hup P K * K) := by
    unfold Fx.hup; rw [Int.mul_assoc, Int.mul_comm K]
  rw [hq] at e
  generalize (2 * P + K) % (2 * K) = r at e f f'
  refine ⟨Fx.hup P K, Fx.hup P K * K, 2 * (Fx.hup P K * K - P), rfl, rfl, hu.1, by omega, ?_⟩
  generalize Fx.hup P K * K = Q at e
  refine ⟨IntWalk.i64_in _ (by omega), IntWalk.i64_in _ (by omega), IntWalk.i64_in _ (by omega), IntWalk.i64_in _ (by omega), by omega, by omega⟩
set_option maxHeartbeats 1000000 in
theorem near_pp (P K M : Int) (p0 : 0 ≤ P) (p1 : P ≤ 8796093022208) (k0 : 1 ≤ K) (k1 : K ≤ 2097152) (hM : Fx.hup P K = M) (w : World) :
    Calls Try.prog 75 #[.int .i64 M, .int .i64 P, .int .i64 K] w fun e w' => e = .returned (.bool true) ∧ w = w' := by
  obtain ⟨M', Q, R, h1, h2, h3, h4, w1, w2, w3, w4, r1, r2⟩ := near_plain P K p0 p1 k0 k1
  obtain rfl : M = M' := by rw [← hM, h1]
  have t1 : ¬ K < 0 := by omega
  have t2 : ¬ P < 0 := by omega
  have H1 := Lib.hid p0
  clear hM h1 h3 h4 p1 p0 k0 k1
  go_enter Try.func75, Try.ntmps75
  go_wp2_with fail
  go_ret
  exact ⟨rfl, rfl⟩
set_option maxHeartbeats 1000000 in
theorem near_np (P K M x o : Int) (p0 : 1 ≤ P) (p1 : P ≤ 8796093022208) (k0 : 1 ≤ K) (k1 : K ≤ 2097152) (hM : Fx.hup P K = M) (hx : -x = M) (ho : -o = P) (w : World) :
    Calls Try.prog 75 #[.int .i64 x, .int .i64 o, .int .i64 K] w fun e w' => e = .returned (.bool true) ∧ w = w' := by
  obtain ⟨M', Q, R, h1, h2, h3, h4, w1, w2, w3, w4, r1, r2⟩ := near_plain P K (by omega) p1 k0 k1
  obtain rfl : M = M' := by rw [← hM, h1]
  have t1 : ¬ K < 0 := by omega
  have t2 : o < 0 := by omega
  have w5 : IntKind.i64.wrap (-x) = M := by rw [hx]; exact IntWalk.i64_in _ (by omega)
  have w6 : IntKind.i64.wrap (-o) = P := by rw [ho]; exact IntWalk.i64_in _ (by omega)
  clear hM h1 h3 h4 p1 p0 k0 k1 hx ho
  go_enter Try.func75, Try.ntmps75
  go_wp2_with fail
  go_ret
  exact ⟨rfl, rfl⟩
set_option maxHeartbeats 1000000 in
theorem near_nn (P K M o u : Int) (p0 : 0 ≤ P) (p1 : P ≤ 8796093022208) (k0 : 1 ≤ K) (k1 : K ≤ 2097152) (hM : Fx.hup P K = M) (ho : -o = P) (hu : -u = K) (w : World) :
    Calls Try.prog 75 #[.int .i64 M, .int .i64 o, .int .i64 u] w fun e w' => e = .returned (.bool true) ∧ w = w' := by
  obtain ⟨M', Q, R, h1, h2, h3, h4, w1, w2, w3, w4, r1, r2⟩ := near_plain P K (by omega) p1 k0 k1
  obtain rfl : M = M' := by rw [← hM, h1]
  have t1 : u < 0 := by omega
  have t2 : ¬ P < 0 := by omega
  have w5 : IntKind.i64.wrap (-u) = K := by rw [hu]; exact IntWalk.i64_in _ (by omega)
  have w6 : IntKind.i64.wrap (-o) = P := by rw [ho]; exact IntWalk.i64_in _ (by omega)
  clear hM h1 h3 h4 p1 p0 k0 k1 hu ho
  go_enter Try.func75, Try.ntmps75
  go_wp2_with fail
  go_ret
  exact ⟨rfl, rfl⟩
set_option maxHeartbeats 1000000 in
theorem near_pn (P K M x N u : Int) (p0 : 1 ≤ P) (p1 : P ≤ 8796093022208) (k0 : 1 ≤ K) (k1 : K ≤ 2097152) (hM : Fx.hup P K = M) (hx : -x = M) (hN : -P = N) (hu : -u = K) (w : World) :
    Calls Try.prog 75 #[.int .i64 x, .int .i64 P, .int .i64 u] w fun e w' => e = .returned (.bool true) ∧ w = w' := by
  obtain ⟨M', Q, R, h1, h2, h3, h4, w1, w2, w3, w4, r1, r2⟩ := near_plain P K (by omega) p1 k0 k1
  obtain rfl : M = M' := by rw [← hM, h1]
  have t1 : u < 0 := by omega
  have t2 : N < 0 := by omega
  have w5 : IntKind.i64.wrap (-u) = K := by rw [hu]; exact IntWalk.i64_in _ (by omega)
  have w6 : IntKind.i64.wrap (-P) = N := by rw [hN]; exact IntWalk.i64_in _ (by omega)
  have w7 : IntKind.i64.wrap (-N) = P := by rw [show -N = P by omega]; exact IntWalk.i64_in _ (by omega)
  have w8 : IntKind.i64.wrap (-x) = M := by rw [hx]; exact IntWalk.i64_in _ (by omega)
  clear hM h1 h3 h4 p1 p0 k0 k1 hu hN hx
  go_enter Try.func75, Try.ntmps75
  go_wp2_with fail
  go_ret
  exact ⟨rfl, rfl⟩
theorem hup_0 (K : Int) (h : 1 ≤ K) : Fx.hup 0 K = 0 := by
  unfold Fx.hup; exact Int.ediv_eq_zero_of_lt (by omega) (by omega)
theorem near_any (s : Bool) (o u x : Int) (hu : u ≠ 0) (k1 : az u ≤ 2097152) (p1 : az o ≤ 8796093022208) (hs : o = 0 ∨ s = (decide (o < 0) != decide (u < 0))) (hx : Fx.sgV s (Fx.hup (az o) (az u)) = x) (w : World) :
    Calls Try.prog 75 #[.int .i64 x, .int .i64 o, .int .i64 u] w fun e w' => e = .returned (.bool true) ∧ w = w' := by
  have k0 := az_pos hu
  have p0 : 0 ≤ az o := by unfold az; split <;> omega
  obtain ⟨M, Q, R, h1, h2, h3, h4, -⟩ := near_plain (az o) (az u) p0 p1 k0 k1
  have hx' : x = if s then -M else M := by
    rw [← hx, h1]; unfold Fx.sgV; cases s <;> simp <;> omega
  by_cases z : o = 0
  · subst z
    have : M = 0 := by rw [← h1]; exact hup_0 _ k0
    subst this
    have : x = 0 := by rw [hx']; split <;> rfl
    subst this
    by_cases t : u < 0
    · exact near_nn 0 (az u) 0 0 u (by omega) (by omega) k0 k1 h1 rfl (by unfold az; rw [if_pos t]) w
    · have : az u = u := by unfold az; rw [if_neg t]
      rw [this] at h1 k0 k1
      exact near_pp 0 u 0 (by omega) (by omega) k0 k1 h1 w
  · rcases hs with hs | hs
    · exact absurd hs z
    · by_cases t : u < 0
      · have eu : az u = -u := by unfold az; rw [if_pos t]
        by_cases v : o < 0
        · have eo : az o = -o := by unfold az; rw [if_pos v]
          simp [t, v] at hs
          subst hs
          rw [show x = M from hx']
          exact near_nn (az o) (az u) M o u p0 p1 k0 k1 h1 eo.symm eu.symm w
        · have eo : az o = o := by unfold az; rw [if_neg v]
          simp [t, v] at hs
          subst hs
          have hx2 : x = -M := hx'
          rw [eo] at h1 p0 p1
          exact near_pn o (az u) M x (-o) u (by omega) p1 k0 k1 h1 (by omega) rfl eu.symm w
      · have eu : az u = u := by unfold az; rw [if_neg t]
        rw [eu] at h1 k0 k1
        by_cases v : o < 0
        · have eo : az o = -o := by unfold az; rw [if_pos v]
          simp [t, v] at hs
          subst hs
          have hx2 : x = -M := hx'
          exact near_np (az o) u M x o (by omega) p1 k0 k1 h1 (by omega) eo.symm w
        · have eo : az o = o := by unfold az; rw [if_neg v]
          simp [t, v] at hs
          subst hs
          rw [show x = M from hx']
          rw [eo] at h1 p0 p1
          exact near_pp o u M p0 p1 k0 k1 h1 w
theorem small_any (x : Int) (w : World) : ∃ s : Int, -1000000 ≤ s ∧ s ≤ 1000000 ∧ ∀ w, Calls Try.prog 74 #[.int .i64 x, .int .i64 1000000] w fun e w' => e = .returned (.int .i64 s) ∧ w = w' := by
  have h1 := Int.emod_nonneg x (show (2000001 : Int) ≠ 0 by omega)
  have h2 := Int.emod_lt_of_pos x (show (0 : Int) < 2000001 by omega)
  have C := fun w => pick_any x 2000001 (by omega) (by omega) w
  generalize x % 2000001 = r at *
  refine ⟨r - 1000000, by omega, by omega, ?_⟩
  intro w
  have w1 : IntKind.i64.wrap (r - 1000000) = r - 1000000 := IntWalk.i64_in _ (by omega)
  have C' := Lib.hid C
  clear C h1 h2
  go_enter Try.func74, Try.ntmps74
  go_wp2_with fail
  refine (C'.out _).mono ?_; rintro e w1 ⟨rfl, rfl⟩
  go_wp2_with fail
  go_ret
  exact ⟨rfl, rfl⟩
end Go.Proofs.Ytgehbebjgmeccaa
