/- Contracts of functions of the program and of its reference, out of walks. Their conditions stand ahead of each. -/
import Derived.Test.YtgehbebjgmeccaaW33
set_option linter.unusedVariables false
set_option linter.unusedSimpArgs false
namespace Go.Proofs.Ytgehbebjgmeccaa
open Go.RowKit
set_option maxHeartbeats 2000000 in
set_option maxRecDepth 100000 in
theorem rRootWide_any (hi lo : Int) (h : 0 ≤ hi) (h' : hi < 4611686018427387904) (l0 : 0 ≤ lo) (l1 : lo < 18446744073709551616) (w : World) :
    Calls Try.prog 55 #[.agg #[.int .i64 hi, .int .u64 lo]] w fun e w' => ∃ r : Int, IsRoot r (hi * 18446744073709551616 + lo) ∧ e = .returned (.tuple #[.int .i64 r, .int .i64 0]) ∧ Below w.heap.size w w' := by
  generalize hN : hi * 18446744073709551616 + lo = N
  obtain rfl : hi = N / 18446744073709551616 := by omega
  obtain rfl : lo = N % 18446744073709551616 := by omega
  have hst := rt_start N (by omega) (by omega)
  have HS := Lib.hid hst
  have HC := Lib.hid (fun p => cmpW p N)
  clear hst hN
  generalize hA : N / 18446744073709551616 = A at *
  generalize hB : N % 18446744073709551616 = B at *
  clear hA hB
  go_enter Try.func55, Try.ntmps55
  go_wp2_with fail
  clear h h' l0 l1
  go_loopw [4, 5] (fun u v wr => ∃ (e : Nat) (r : Int), u = .int .i64 r ∧ v = .int .i64 ((2 : Int) ^ e / 2) ∧ Rt e r N ∧ wr.cell? ⟨w.heap.size, 0, none⟩ = some (.int .i64 A) ∧ wr.cell? ⟨w.heap.size, 1, none⟩ = some (.int .u64 B) ∧ w.heap.size < wr.heap.size ∧ Below w.heap.size w wr) (fun _ v _ => (intOf v).toNat)
  case atStart => exact ⟨63, 0, rfl, rfl, HS.out, by simp [go_sem], by simp [go_sem], by simp, (Below.refl _ _).alloc (Nat.le_refl _) _⟩
  case round =>
    obtain ⟨e, r, rfl, rfl, hrt, c0, c1, hs, hb⟩ := hrel
    cases e with
    | zero =>
      have hend := rt_end hrt
      have HE := Lib.hid hend
      clear hend hrt
      rw [show (2 : Int) ^ 0 / 2 = 0 from by decide]
      go_wp2_with fail
      go_ret2
      exact ⟨r, HE.out, rfl, hb⟩
    | succ e =>
      obtain ⟨-, t0, t1⟩ := rt_or hrt
      have hno := fun h => rt_no hrt h
      have hyes := fun h => rt_yes hrt h
      have HN := Lib.hid hno
      have HY := Lib.hid hyes
      have p2 := two_pos e
      have hr0 : 0 ≤ r := hrt.2.1
      clear hno hyes hrt
      rw [show (2 : Int) ^ (e + 1) / 2 = (2 : Int) ^ e from by rw [two_succ]; omega]
      generalize hb' : (2 : Int) ^ e = b at *
      have HB2 := Lib.hid hb'
      have hcm := HC.out ((r + b) * (r + b))
      clear hb'
      have hh0 : 0 ≤ b / 2 := by omega
      have hh1 : b / 2 < b := by omega
      have htd : b.tdiv 2 = b / 2 := Int.tdiv_eq_ediv_of_nonneg (by omega)
      have hwr : IntKind.i64.wrap (r + b) = r + b := by rw [IntKind.wrap_i64]; omega
      have HM := Lib.hid hcm
      clear hcm
      have hb0 := Lib.hid hb
      clear hb
      generalize hP : (r + b) * (r + b) = P at *
      generalize hS : sg P N = S at *
      have HSS := Lib.hid hS
      have HPP := Lib.hid hP
      clear hS hP
      go_wp2_with fail
      go_region_held3 (fun w' => w'.cell? ⟨w.heap.size, 0, none⟩ = some (.int .i64 A) ∧ w'.cell? ⟨w.heap.size, 1, none⟩ = some (.int .u64 B)) (first | exact ⟨by assumption, by assumption⟩ | (simp [go_sem, *]; done))
        (first
            | (go_at_call 56; (try simp only [hwr]); refine (rprod_nn (r + b) t0 t1 _).mono ?_; rintro e1 w1 ⟨rfl, hb1⟩; have d0 := (hb1.cell (p := ⟨w.heap.size, 0, none⟩) (by assumption)).trans (by assumption); have d1 := (hb1.cell (p := ⟨w.heap.size, 1, none⟩) (by assumption)).trans (by assumption); have z1 : w.heap.size < w1.heap.size := Nat.lt_of_lt_of_le hs hb1.size; have HC1 := Lib.hid (hb0.out.drew.trans (hb1.mono (Nat.le_of_lt hs))); clear hb1)
            | (go_at_call 105; refine (rCmp_any _ _ A B _).mono ?_; rintro e2 w2 ⟨rfl, hb1⟩; have d2 := (hb1.cell (p := ⟨w.heap.size, 0, none⟩) z1).trans d0; have d3 := (hb1.cell (p := ⟨w.heap.size, 1, none⟩) z1).trans d1; have z2 : w.heap.size < w2.heap.size := Nat.lt_of_lt_of_le z1 hb1.size; have HC2 := Lib.hid (HC1.out.trans (hb1.mono (Nat.le_of_lt z1))); clear hb1; (try rw [HPP.out]); rw [HM.out]))
      have HTD := Lib.hid htd
      clear htd
      by_cases hq : S ≤ 0
      · have hPN : P ≤ N := by
          have := HSS.out
          by_cases k : P ≤ N
          · exact k
          · unfold sg at this; rw [if_neg (by omega), if_pos (by omega)] at this; omega
        have HX := Lib.hid (HY.out hPN)
        clear hPN HN HY HSS
        go_wp2_with fail
        exact ⟨⟨e, r + b, rfl, by rw [HB2.out], HX.out, d2, d3, z2, HC2.out⟩, by simp [intOf]; omega⟩
      · have hPN : N < P := by
          have := HSS.out
          by_cases k : N < P
          · exact k
          · unfold sg at this; by_cases k' : P < N
            · rw [if_pos k'] at this; omega
            · rw [if_neg k', if_neg k] at this; omega
        have HX := Lib.hid (HN.out hPN)
        clear hPN HN HY HSS
        go_wp2_with fail
        exact ⟨⟨e, r, rfl, by rw [HB2.out], HX.out, d2, d3, z2, HC2.out⟩, by simp [intOf]; omega⟩
end Go.Proofs.Ytgehbebjgmeccaa
