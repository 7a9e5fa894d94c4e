/- Contracts of functions of the program, out of walks. Their conditions stand ahead of each. -/
import Derived.Test.YtfifcpgjcgoinaaN8
set_option linter.unusedVariables false
set_option linter.unusedSimpArgs false
set_option exponentiation.threshold 10000
namespace Go.Proofs.Ytfifcpgjcgoinaa
open Go.RowKit GW NL
theorem ord_len {a b : Nat} (h : (limbs a).length ≠ (limbs b).length) : ord (limbs a).length (limbs b).length = ord a b := by
  unfold ord
  rcases Nat.lt_or_gt_of_ne h with h | h
  · rw [if_pos h, if_pos (limbs_lt_of_len h)]
  · have := limbs_lt_of_len h
    rw [if_neg (by omega), if_pos h, if_neg (by omega), if_pos this]
theorem compare_any (A B : Option Addr) (ca cb a b : Nat) (w : World) (ha : SlW w A ca (limbs a)) (hb : SlW w B cb (limbs b)) (hl : (limbs a).length ≤ 35184372088832) :
    Calls Try.prog 55 #[.slice A (limbs a).length ca, .slice B (limbs b).length cb] w fun e w' => e = .returned (.int .i64 (ord a b)) ∧ Below w.heap.size w w' := by
  by_cases hn : (limbs a).length = (limbs b).length
  · have hb' := limB_of hb
    rw [← hn] at hb' ⊢
    have := compare_same A B ca cb (limbs a).length (limbs a) (limbs b) w (limB_of ha) hb' rfl hn.symm (ok_limbs a) (ok_limbs b) hl
    rw [val_limbs, val_limbs] at this
    exact callsIn_wide.1 this
  · have C := Lib.hid (fun w => cmpI_any (limbs a).length (limbs b).length w)
    rw [ord_len hn] at C
    have hne := ord_ne (x := a) (y := b) (fun e => hn (by rw [e]))
    have m1 := ha.cap
    have m2 := ha.len
    have m3 := hb.cap
    have m4 := hb.len
    clear ha hb hn
    generalize ord a b = r at *
    generalize (limbs a).length = n1 at *
    generalize (limbs b).length = n2 at *
    refine calls_g fun g => ?_
    go_enter Try.func55, Try.ntmps55
    go_wp2_with (with_reducible refine G.any_mark _ ?_; (try generalize Array.size (World.heap (G.w _)) = bk); (try dsimp only [List.set_cons_zero, List.set_cons_succ]); (try clear g); intro g)
    refine (C.out _).mono ?_
    rintro e w1 ⟨rfl, rfl⟩
    go_wp2_with (with_reducible refine G.any_mark _ ?_; (try generalize Array.size (World.heap (G.w _)) = bk); (try dsimp only [List.set_cons_zero, List.set_cons_succ]); (try clear g); intro g)
    refine bodyPost_ret (v := .int .i64 r) (by simp [results, Try.f55, go_sem]) rfl ⟨rfl, G.below _⟩
end Go.Proofs.Ytfifcpgjcgoinaa
