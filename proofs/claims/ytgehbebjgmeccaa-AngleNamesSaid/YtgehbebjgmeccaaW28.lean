/- Contracts of functions of the program and of its reference, out of walks. Their conditions stand ahead of each. -/
import Derived.Test.YtgehbebjgmeccaaW27
set_option linter.unusedVariables false
set_option linter.unusedSimpArgs false
namespace Go.Proofs.Ytgehbebjgmeccaa
open Go.RowKit
theorem i64or (e : Nat) (r b : Int) (h0 : 0 ≤ r) (h1 : r < 9223372036854775808) (hr : r % (2 : Int) ^ e = 0) (b0 : 0 ≤ b) (b1 : b < (2 : Int) ^ e) (hs : r + b < 9223372036854775808) : bits .or .i64 r b = r + b := by
  refine bits_join .i64 63 (by decide) (fun n a c => by rw [IntKind.wrap_i64]; omega) e r b h0 hr ?_ b0 b1 ?_
  all_goals omega
theorem cmpW (p n : Int) : orV (sg (p / 18446744073709551616) (n / 18446744073709551616)) (sg (p % 18446744073709551616) (n % 18446744073709551616)) = sg p n := by
  unfold orV sg
  repeat' split
  all_goals omega
/-- A step of the search for the root: what is known of the part that is found. -/
def Rt (e : Nat) (r N : Int) : Prop := e ≤ 63 ∧ 0 ≤ r ∧ r % (2 : Int) ^ e = 0 ∧ r + (2 : Int) ^ e ≤ 9223372036854775808 ∧ r * r ≤ N ∧ N < (r + (2 : Int) ^ e) * (r + (2 : Int) ^ e)
theorem rt_start (N : Int) (h0 : 0 ≤ N) (h1 : N < 85070591730234615865843651857942052864) : Rt 63 0 N := by
  refine ⟨by omega, by omega, by decide, by decide, by omega, ?_⟩
  have : ((0 : Int) + (2 : Int) ^ 63) * ((0 : Int) + (2 : Int) ^ 63) = 85070591730234615865843651857942052864 := by decide
  omega
theorem two_succ (e : Nat) : (2 : Int) ^ (e + 1) = 2 * (2 : Int) ^ e := by rw [Int.pow_succ]; omega
theorem two_pos (e : Nat) : 1 ≤ (2 : Int) ^ e := by have := Int.pow_pos (n := 2) (m := e) (by omega); omega
theorem rt_or {e : Nat} {r N : Int} (h : Rt (e + 1) r N) : bits .or .i64 r ((2 : Int) ^ e) = r + (2 : Int) ^ e ∧ 0 ≤ r + (2 : Int) ^ e ∧ r + (2 : Int) ^ e ≤ 9223372036854775807 := by
  obtain ⟨h1, h2, h3, h4, _, _⟩ := h
  have t := two_succ e
  have p := two_pos e
  refine ⟨i64or (e + 1) r _ h2 (by omega) h3 (by omega) (by omega) (by omega), by omega, by omega⟩
theorem mod_half {e : Nat} {r : Int} (h : r % (2 : Int) ^ (e + 1) = 0) : r % (2 : Int) ^ e = 0 := by
  rw [two_succ] at h
  exact Int.emod_eq_zero_of_dvd (Int.dvd_trans (Int.dvd_mul_left 2 _) (Int.dvd_of_emod_eq_zero h))
theorem rt_no {e : Nat} {r N : Int} (h : Rt (e + 1) r N) (hc : N < (r + (2 : Int) ^ e) * (r + (2 : Int) ^ e)) : Rt e r N := by
  obtain ⟨h1, h2, h3, h4, h5, h6⟩ := h
  have t := two_succ e
  have p := two_pos e
  exact ⟨by omega, h2, mod_half h3, by omega, h5, hc⟩
theorem rt_yes {e : Nat} {r N : Int} (h : Rt (e + 1) r N) (hc : ¬ N < (r + (2 : Int) ^ e) * (r + (2 : Int) ^ e)) : Rt e (r + (2 : Int) ^ e) N := by
  obtain ⟨h1, h2, h3, h4, h5, h6⟩ := h
  have t := two_succ e
  have p := two_pos e
  refine ⟨by omega, by omega, ?_, by omega, by omega, ?_⟩
  · rw [Int.add_emod, mod_half h3, Int.emod_self]; simp
  · rw [show r + (2 : Int) ^ e + (2 : Int) ^ e = r + (2 : Int) ^ (e + 1) from by omega]; exact h6
theorem rt_end {r N : Int} (h : Rt 0 r N) : 0 ≤ r ∧ r ≤ 9223372036854775807 ∧ r * r ≤ N ∧ N < (r + 1) * (r + 1) := by
  obtain ⟨h1, h2, h3, h4, h5, h6⟩ := h
  simp at h4 h6
  exact ⟨h2, by omega, h5, h6⟩
def IsRoot (r N : Int) : Prop := 0 ≤ r ∧ r ≤ 9223372036854775807 ∧ r * r ≤ N ∧ N < (r + 1) * (r + 1)
theorem root_uniq {r s N : Int} (h : IsRoot r N) (h' : IsRoot s N) : r = s := by
  obtain ⟨a, _, b, c⟩ := h
  obtain ⟨a', _, b', c'⟩ := h'
  rcases Int.lt_trichotomy r s with g | g | g
  · have := Int.mul_le_mul (show r + 1 ≤ s by omega) (show r + 1 ≤ s by omega) (by omega) a'
    omega
  · exact g
  · have := Int.mul_le_mul (show s + 1 ≤ r by omega) (show s + 1 ≤ r by omega) (by omega) a
    omega
def RootRes (N : Int) (w : World) (e : Ending) (w' : World) : Prop := ∃ r : Int, IsRoot r N ∧ e = .returned (.int .i64 r) ∧ Below w.heap.size w w'
theorem rw1_any (x : Int) (hx : 0 ≤ x ∧ x ≤ 9223372036854775807) (w : World) :
    Calls Try.prog 132 #[.int .i64 x] w fun e w' => e = .returned (.agg #[.int .i64 (x * x / 18446744073709551616), .int .u64 (x * x % 18446744073709551616)]) ∧ Below w.heap.size w w' := by
  go_enter Try.func132, Try.ntmps132
  go_wp2_with fail
  refine (prod_any x x (by omega) (by omega) _).mono ?_
  rintro e w1 ⟨rfl, hb⟩
  obtain ⟨c1, f1, z1⟩ := step2 (b := w.heap.size) hb (by simp)
  have r0 := (c1 0).trans (show _ = some (.int .i64 0) by simp [go_sem])
  have r1 := (c1 1).trans (show _ = some (.int .u64 0) by simp [go_sem])
  have s0 := (f1 0).trans (show _ = false by simp [go_sem])
  have s1 := (f1 1).trans (show _ = false by simp [go_sem])
  have HB := Lib.hid (((Below.refl w.heap.size w).alloc (Nat.le_refl _) (.cells #[.int .i64 0, .int .u64 0] 62)).trans (hb.mono (by simp)))
  clear hb c1 f1
  generalize hH : x * x / 18446744073709551616 = H at *
  generalize hL : x * x % 18446744073709551616 = L at *
  have HH := Lib.hid hH
  have HL := Lib.hid hL
  clear hH hL
  go_wp2_with fail
  rw [HH.out, HL.out]
  refine bodyPost_ret (v := .agg #[.int .i64 H, .int .u64 L]) (by simp [results, Try.results132, go_sem, r0, r1]) rfl ⟨rfl, ?_⟩
  exact (HB.out.setCell (Nat.le_refl _) _).setCell (Nat.le_refl _) _
set_option maxHeartbeats 2000000 in
theorem root_any (N : Int) (h0 : 0 ≤ N) (h1 : N < 85070591730234615865843651857942052864) (w : World) :
    Calls Try.prog 131 #[.agg #[.int .i64 (N / 18446744073709551616), .int .u64 (N % 18446744073709551616)], .func (.func 132) #[] #[], .func (.func 99) #[] #[]] w (RootRes N w) := by
  have hst := rt_start N h0 h1
  have HS := Lib.hid hst
  have HC := Lib.hid (fun p => cmpW p N)
  clear hst h0 h1
  generalize hA : N / 18446744073709551616 = A at *
  generalize hB : N % 18446744073709551616 = B at *
  clear hA hB
  go_enter Try.func131, Try.ntmps131
  go_wp2_with fail
  go_step3
  go_wp2_with fail
  go_step3
  go_wp2_with fail
  go_loopw [7, 8] (fun u v wr => ∃ (e : Nat) (r : Int), u = .int .i64 r ∧ v = .int .i64 ((2 : Int) ^ e / 2) ∧ Rt e r N ∧ wr.cell? ⟨w.heap.size, 0, none⟩ = some (.int .i64 A) ∧ wr.cell? ⟨w.heap.size, 1, none⟩ = some (.int .u64 B) ∧ w.heap.size < wr.heap.size ∧ Below w.heap.size w wr) (fun _ v _ => (intOf v).toNat)
  case atStart => exact ⟨63, 0, rfl, rfl, HS.out, by simp [go_sem], by simp [go_sem], by simp, (Below.refl _ _).alloc (Nat.le_refl _) _⟩
  case round =>
    obtain ⟨e, r, rfl, rfl, hrt, c0, c1, hs, hb⟩ := hrel
    cases e with
    | zero =>
      have hend := rt_end hrt
      have HE := Lib.hid hend
      clear hend hrt
      rw [show (2 : Int) ^ 0 / 2 = 0 from by decide]
      go_wp2_with fail
      rw [Exit.noGoto_ret]
      go_ret
      exact ⟨r, HE.out, rfl, hb⟩
    | succ e =>
      obtain ⟨hor, t0, t1⟩ := rt_or hrt
      have hno := fun h => rt_no hrt h
      have hyes := fun h => rt_yes hrt h
      have HN := Lib.hid hno
      have HY := Lib.hid hyes
      have p2 := two_pos e
      have hr0 : 0 ≤ r := hrt.2.1
      clear hno hyes hrt
      rw [show (2 : Int) ^ (e + 1) / 2 = (2 : Int) ^ e from by rw [two_succ]; omega]
      generalize hb' : (2 : Int) ^ e = b at *
      have HB2 := Lib.hid hb'
      have hcm := HC.out ((r + b) * (r + b))
      clear hb'
      have hh0 : 0 ≤ b / 2 := by omega
      have hh1 : b / 2 < b := by omega
      have HM := Lib.hid hcm
      clear hcm
      by_cases hc : N < (r + b) * (r + b)
      · have hsg : sg ((r + b) * (r + b)) N = 1 := by unfold sg; rw [if_neg (by omega), if_pos hc]
        have hnx := HN.out hc
        have HX := Lib.hid hnx
        have HSG := Lib.hid hsg
        clear hnx hsg hc HN HY
        have hb0 := Lib.hid hb
        clear hb
        go_wp2_with fail
        go_region_held3 (fun w' => w'.cell? ⟨w.heap.size, 0, none⟩ = some (.int .i64 A) ∧ w'.cell? ⟨w.heap.size, 1, none⟩ = some (.int .u64 B)) (first | exact ⟨by assumption, by assumption⟩ | (simp [go_sem, *]; done))
          (first
            | (go_at_call 132; refine (rw1_any (r + b) ⟨t0, t1⟩ _).mono ?_; rintro e1 w1 ⟨rfl, hb1⟩; have d0 := (hb1.cell (p := ⟨w.heap.size, 0, none⟩) (by assumption)).trans (by assumption); have d1 := (hb1.cell (p := ⟨w.heap.size, 1, none⟩) (by assumption)).trans (by assumption); have z1 : w.heap.size < w1.heap.size := Nat.lt_of_lt_of_le hs hb1.size; have HC1 := Lib.hid (hb0.out.drew.trans (hb1.mono (Nat.le_of_lt hs))); clear hb1)
            | (go_at_call 99; refine (Cmp_any _ _ A B _).mono ?_; rintro e2 w2 ⟨rfl, hb1⟩; have d2 := (hb1.cell (p := ⟨w.heap.size, 0, none⟩) z1).trans d0; have d3 := (hb1.cell (p := ⟨w.heap.size, 1, none⟩) z1).trans d1; have z2 : w.heap.size < w2.heap.size := Nat.lt_of_lt_of_le z1 hb1.size; have HC2 := Lib.hid (HC1.out.trans (hb1.mono (Nat.le_of_lt z1))); clear hb1; rw [HM.out, HSG.out]))
        go_wp2_with fail
        exact ⟨⟨e, r, rfl, by rw [HB2.out], HX.out, d2, d3, z2, HC2.out⟩, by simp [intOf]; omega⟩
      · have hsg : sg ((r + b) * (r + b)) N = -1 ∨ sg ((r + b) * (r + b)) N = 0 := by unfold sg; by_cases k : (r + b) * (r + b) < N <;> simp [k]; omega
        have hnx := HY.out hc
        have HX := Lib.hid hnx
        clear hnx hc HN HY
        rcases hsg with hsg | hsg
        all_goals have HSG := Lib.hid hsg
        all_goals clear hsg
        · have hb0 := Lib.hid hb
          clear hb
          go_wp2_with fail
          go_region_held3 (fun w' => w'.cell? ⟨w.heap.size, 0, none⟩ = some (.int .i64 A) ∧ w'.cell? ⟨w.heap.size, 1, none⟩ = some (.int .u64 B)) (first | exact ⟨by assumption, by assumption⟩ | (simp [go_sem, *]; done))
            (first
              | (go_at_call 132; refine (rw1_any (r + b) ⟨t0, t1⟩ _).mono ?_; rintro e1 w1 ⟨rfl, hb1⟩; have d0 := (hb1.cell (p := ⟨w.heap.size, 0, none⟩) (by assumption)).trans (by assumption); have d1 := (hb1.cell (p := ⟨w.heap.size, 1, none⟩) (by assumption)).trans (by assumption); have z1 : w.heap.size < w1.heap.size := Nat.lt_of_lt_of_le hs hb1.size; have HC1 := Lib.hid (hb0.out.drew.trans (hb1.mono (Nat.le_of_lt hs))); clear hb1)
              | (go_at_call 99; refine (Cmp_any _ _ A B _).mono ?_; rintro e2 w2 ⟨rfl, hb1⟩; have d2 := (hb1.cell (p := ⟨w.heap.size, 0, none⟩) z1).trans d0; have d3 := (hb1.cell (p := ⟨w.heap.size, 1, none⟩) z1).trans d1; have z2 : w.heap.size < w2.heap.size := Nat.lt_of_lt_of_le z1 hb1.size; have HC2 := Lib.hid (HC1.out.trans (hb1.mono (Nat.le_of_lt z1))); clear hb1; rw [HM.out, HSG.out]))
          go_wp2_with fail
          exact ⟨⟨e, r + b, rfl, by rw [HB2.out], HX.out, d2, d3, z2, HC2.out⟩, by simp [intOf]; omega⟩
        · have hb0 := Lib.hid hb
          clear hb
          go_wp2_with fail
          go_region_held3 (fun w' => w'.cell? ⟨w.heap.size, 0, none⟩ = some (.int .i64 A) ∧ w'.cell? ⟨w.heap.size, 1, none⟩ = some (.int .u64 B)) (first | exact ⟨by assumption, by assumption⟩ | (simp [go_sem, *]; done))
            (first
              | (go_at_call 132; refine (rw1_any (r + b) ⟨t0, t1⟩ _).mono ?_; rintro e1 w1 ⟨rfl, hb1⟩; have d0 := (hb1.cell (p := ⟨w.heap.size, 0, none⟩) (by assumption)).trans (by assumption); have d1 := (hb1.cell (p := ⟨w.heap.size, 1, none⟩) (by assumption)).trans (by assumption); have z1 : w.heap.size < w1.heap.size := Nat.lt_of_lt_of_le hs hb1.size; have HC1 := Lib.hid (hb0.out.drew.trans (hb1.mono (Nat.le_of_lt hs))); clear hb1)
              | (go_at_call 99; refine (Cmp_any _ _ A B _).mono ?_; rintro e2 w2 ⟨rfl, hb1⟩; have d2 := (hb1.cell (p := ⟨w.heap.size, 0, none⟩) z1).trans d0; have d3 := (hb1.cell (p := ⟨w.heap.size, 1, none⟩) z1).trans d1; have z2 : w.heap.size < w2.heap.size := Nat.lt_of_lt_of_le z1 hb1.size; have HC2 := Lib.hid (HC1.out.trans (hb1.mono (Nat.le_of_lt z1))); clear hb1; rw [HM.out, HSG.out]))
          go_wp2_with fail
          exact ⟨⟨e, r + b, rfl, by rw [HB2.out], HX.out, d2, d3, z2, HC2.out⟩, by simp [intOf]; omega⟩
theorem RootWide_any (hi lo : Int) (h : 0 ≤ hi) (h' : hi < 4611686018427387904) (l0 : 0 ≤ lo) (l1 : lo < 18446744073709551616) (w : World) :
    Calls Try.prog 54 #[.agg #[.int .i64 hi, .int .u64 lo]] w fun e w' => ∃ r : Int, IsRoot r (hi * 18446744073709551616 + lo) ∧ e = .returned (.tuple #[.int .i64 r, .int .i64 0]) ∧ Below w.heap.size w w' := by
  have hr := root_any (hi * 18446744073709551616 + lo) (by omega) (by omega)
  rw [show (hi * 18446744073709551616 + lo) / 18446744073709551616 = hi from by omega, show (hi * 18446744073709551616 + lo) % 18446744073709551616 = lo from by omega] at hr
  have HR := Lib.hid hr
  clear hr
  generalize hN : hi * 18446744073709551616 + lo = N at *
  have HN := Lib.hid hN
  clear hN
  go_enter Try.func54, Try.ntmps54
  go_wp2_with fail
  refine (HR.out _).mono ?_
  rintro e w1 ⟨r, hr, rfl, hb⟩
  have HB := Lib.hid (((Below.refl w.heap.size w).alloc (Nat.le_refl _) (.cells #[.int .i64 hi, .int .u64 lo] 62)).trans (hb.mono (by simp)))
  have HRR := Lib.hid hr
  clear hb hr
  go_wp2_with fail
  go_ret2
  exact ⟨r, HRR.out, rfl, HB.out⟩
theorem Root_any (n : Int) (h : 0 ≤ n) (h' : n ≤ 9223372036854775807) (w : World) :
    Calls Try.prog 52 #[.int .i64 n] w fun e w' => ∃ r : Int, IsRoot r n ∧ e = .returned (.tuple #[.int .i64 r, .int .i64 0]) ∧ Below w.heap.size w w' := by
  have hr := fun w => RootWide_any 0 n (by omega) (by omega) h (by omega) w
  rw [show (0 : Int) * 18446744073709551616 + n = n from by omega] at hr
  have HR := Lib.hid hr
  clear hr
  have hd : decide (n < 0) = false := by simp; omega
  go_enter Try.func52, Try.ntmps52
  go_wp2_with fail
  refine (HR.out _).mono ?_
  rintro e w1 ⟨r, hr, rfl, hb⟩
  have HRR := Lib.hid hr
  clear hr
  go_wp2_with fail
  go_ret2
  exact ⟨r, HRR.out, rfl, hb⟩
end Go.Proofs.Ytgehbebjgmeccaa
