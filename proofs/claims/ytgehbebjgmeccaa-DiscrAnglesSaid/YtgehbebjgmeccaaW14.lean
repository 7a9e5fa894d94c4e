/- Contracts of functions of the program and of its reference, out of walks. Their conditions stand ahead of each. -/
import Derived.Test.YtgehbebjgmeccaaW13
set_option linter.unusedVariables false
set_option linter.unusedSimpArgs false
namespace Go.Proofs.Ytgehbebjgmeccaa
open Go.RowKit
theorem sq_bd (x : Int) (h0 : -1048576 ≤ x) (h1 : x ≤ 1048576) : 0 ≤ x * x ∧ x * x ≤ 1099511627776 := by
  have a := Int.mul_nonneg (show 0 ≤ 1048576 - x by omega) (show 0 ≤ 1048576 + x by omega)
  have b : (1048576 - x) * (1048576 + x) = 1099511627776 - x * x := by grind
  have c : 0 ≤ x * x := by
    rcases Int.le_total 0 x with h | h
    · exact Int.mul_nonneg h h
    · exact Int.mul_nonneg_of_nonpos_of_nonpos h h
  omega
theorem power_any (x y : Int) (hin : InB (x, y)) (w : World) :
    Calls Try.prog 109 #[.agg #[.int .i64 x, .int .i64 y]] w fun e w' => e = .returned (.int .i64 (x * x + y * y)) ∧ Below w.heap.size w w' := by
  obtain ⟨x0, x1, y0, y1⟩ := hin
  have ⟨a0, a1⟩ := sq_bd x x0 x1
  have ⟨b0, b1⟩ := sq_bd y y0 y1
  go_enter Try.func109, Try.ntmps109
  go_wp2
  go_ret
  exact ⟨rfl, (Below.refl _ _).alloc (Nat.le_refl _) _⟩
def shareF (a b : Int) : Int := if b = 0 then 0 else if a < 0 then -((2048 * (-a) + b) / (2 * b)) else (2048 * a + b) / (2 * b)
theorem share_pos (a b : Int) (ha : 0 ≤ a) (hab : a ≤ b) (hb : b ≤ 4398046511104) (w : World) :
    Calls Try.prog 110 #[.int .i64 a, .int .i64 b] w fun e w' => e = .returned (.int .i64 (shareF a b)) ∧ w = w' := by
  by_cases h : b = 0
  · subst h
    go_enter Try.func110, Try.ntmps110
    go_wp2_with fail
    go_ret
    exact ⟨ret_int (by simp [shareF]), rfl⟩
  · have h0 : (b == 0) = false := by simpa using h
    have h1 : decide (a < 0) = false := by simp; omega
    go_enter Try.func110, Try.ntmps110
    go_wp2_with fail
    go_ret
    exact ⟨ret_int (by simp [shareF, h, show ¬ a < 0 from by omega]), rfl⟩
theorem shareF_bd (a b : Int) (ha : 0 ≤ a) (hab : a ≤ b) : 0 ≤ shareF a b ∧ shareF a b ≤ 1024 := by
  unfold shareF
  by_cases h : b = 0
  · rw [if_pos h]; omega
  · rw [if_neg h, if_neg (by omega)]
    refine ⟨Int.ediv_nonneg (by omega) (by omega), ?_⟩
    have := Int.ediv_lt_of_lt_mul (a := 2048 * a + b) (b := 1025) (c := 2 * b) (by omega) (by omega)
    omega
theorem shareF_neg (a b : Int) (hb : 0 < b) (ha : a < 0) : shareF a b = - shareF (-a) b := by
  unfold shareF
  rw [if_neg (by omega), if_pos ha, if_neg (by omega), if_neg (by omega)]
theorem share_any (a b : Int) (ha : -b ≤ a) (hab : a ≤ b) (hb : b ≤ 4398046511104) (w : World) :
    Calls Try.prog 110 #[.int .i64 a, .int .i64 b] w fun e w' => e = .returned (.int .i64 (shareF a b)) ∧ w = w' := by
  by_cases h : 0 ≤ a
  · exact share_pos a b h hab hb w
  · have h0 : (b == 0) = false := by simp; omega
    have h1 : decide (a < 0) = true := by simp; omega
    have bd := shareF_bd (-a) b (by omega) (by omega)
    have hn := shareF_neg a b (by omega) (by omega)
    have HN := Lib.hid hn
    clear hn
    go_enter Try.func110, Try.ntmps110
    go_wp2_with (go_at_call 110; refine (share_pos (-a) b (by omega) (by omega) (by omega) _).mono ?_; rintro e w' ⟨rfl, rfl⟩)
    go_ret
    exact ⟨ret_int HN.out.symm, rfl⟩
theorem rpower_any (x y : Int) (hin : InB (x, y)) (w : World) :
    Calls Try.prog 112 #[.agg #[.int .i64 x, .int .i64 y]] w fun e w' => e = .returned (.int .i64 (x * x + y * y)) ∧ Below w.heap.size w w' := by
  obtain ⟨x0, x1, y0, y1⟩ := hin
  have ⟨a0, a1⟩ := sq_bd x x0 x1
  have ⟨b0, b1⟩ := sq_bd y y0 y1
  go_enter Try.func112, Try.ntmps112
  go_wp2
  go_ret
  exact ⟨rfl, (Below.refl _ _).alloc (Nat.le_refl _) _⟩
theorem rshare_pos (a b : Int) (ha : 0 ≤ a) (hab : a ≤ b) (hb : b ≤ 4398046511104) (w : World) :
    Calls Try.prog 113 #[.int .i64 a, .int .i64 b] w fun e w' => e = .returned (.int .i64 (shareF a b)) ∧ w = w' := by
  by_cases h : b = 0
  · subst h
    go_enter Try.func113, Try.ntmps113
    go_wp2_with fail
    go_ret
    exact ⟨ret_int (by simp [shareF]), rfl⟩
  · have h0 : (b == 0) = false := by simpa using h
    have h1 : decide (a < 0) = false := by simp; omega
    go_enter Try.func113, Try.ntmps113
    go_wp2_with fail
    go_ret
    exact ⟨ret_int (by simp [shareF, h, show ¬ a < 0 from by omega]), rfl⟩
theorem rshare_any (a b : Int) (ha : -b ≤ a) (hab : a ≤ b) (hb : b ≤ 4398046511104) (w : World) :
    Calls Try.prog 113 #[.int .i64 a, .int .i64 b] w fun e w' => e = .returned (.int .i64 (shareF a b)) ∧ w = w' := by
  by_cases h : 0 ≤ a
  · exact rshare_pos a b h hab hb w
  · have h0 : (b == 0) = false := by simp; omega
    have h1 : decide (a < 0) = true := by simp; omega
    have bd := shareF_bd (-a) b (by omega) (by omega)
    have hn := shareF_neg a b (by omega) (by omega)
    have HN := Lib.hid hn
    clear hn
    go_enter Try.func113, Try.ntmps113
    go_wp2_with (go_at_call 113; refine (rshare_pos (-a) b (by omega) (by omega) (by omega) _).mono ?_; rintro e w' ⟨rfl, rfl⟩)
    go_ret
    exact ⟨ret_int HN.out.symm, rfl⟩
theorem Lock1_any (x y : Int) (w : World) (hin : InB (x, y)) :
    Calls Try.prog 119 #[.agg #[.int .i64 x, .int .i64 y]] w fun e w' => e = .returned (.int .i64 (shareF (x * x - y * y) (x * x + y * y))) ∧ Below w.heap.size w w' := by
  have HIN := Lib.hid hin
  obtain ⟨x0, x1, y0, y1⟩ := hin
  have ⟨a0, a1⟩ := sq_bd x x0 x1
  have ⟨b0, b1⟩ := sq_bd y y0 y1
  have q1 : IntKind.i64.wrap (x * x) = x * x := IntWalk.i64_in _ (by omega)
  have q2 : IntKind.i64.wrap (y * y) = y * y := IntWalk.i64_in _ (by omega)
  have q3 : IntKind.i64.wrap (x * x - y * y) = x * x - y * y := IntWalk.i64_in _ (by omega)
  go_enter Try.func119, Try.ntmps119
  go_wp2_with fail
  go_region_held3 (fun w' => w'.cell? ⟨w.heap.size, 0, none⟩ = some (.int .i64 x) ∧ w'.cell? ⟨w.heap.size, 1, none⟩ = some (.int .i64 y)) (first | exact ⟨by assumption, by assumption⟩ | (simp [go_sem, *]; done))
    (first
      | (go_at_call 109; refine (power_any _ _ HIN.out _).mono ?_; rintro e w1 ⟨rfl, hb1⟩; have G0 := (hb1.cell (p := ⟨w.heap.size, 0, none⟩) (by simp)).trans (show _ = some (.int .i64 x) by simp [go_sem]); have G1 := (hb1.cell (p := ⟨w.heap.size, 1, none⟩) (by simp)).trans (show _ = some (.int .i64 y) by simp [go_sem]); have HC := Lib.hid (((Below.refl w.heap.size w).alloc (Nat.le_refl _) (.cells #[.int .i64 x, .int .i64 y] 23)).drew.trans (hb1.mono (by simp))); clear hb1)
      | (go_at_call 110; refine (share_any _ _ (by omega) (by omega) (by omega) _).mono ?_; rintro e w1 ⟨rfl, rfl⟩))
  go_wp2_with fail
  go_ret
  exact ⟨rfl, HC.out⟩
end Go.Proofs.Ytgehbebjgmeccaa
