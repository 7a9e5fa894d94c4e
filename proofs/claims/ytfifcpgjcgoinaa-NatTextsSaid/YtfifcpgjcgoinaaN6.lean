/- Contracts of functions of the program, out of walks. Their conditions stand ahead of each. -/
import Derived.Test.YtfifcpgjcgoinaaN5
set_option linter.unusedVariables false
set_option linter.unusedSimpArgs false
set_option exponentiation.threshold 10000
namespace Go.Proofs.Ytfifcpgjcgoinaa
open Go.RowKit GW NL
theorem Of_neg (a : Int) (h0 : a < 0) (h1 : -9223372036854775808 ≤ a) (w : World) : Calls Try.prog 19 #[.int .i64 a] w (RNE (0, 2) w) := by
  refine calls_b fun g => ?_
  go_enter Try.func19, Try.ntmps19
  go_wp2_with (with_reducible refine G.any_mark _ ?_; (try generalize Array.size (World.heap (G.w _)) = bk); (try dsimp only [List.set_cons_zero, List.set_cons_succ]); (try clear g); intro g)
  go_ret2
  exact rne_err g 2
theorem two_limbs (n : Nat) (h : n < 9223372036854775808) : val [n % 4294967296, n / 4294967296] = n ∧ Ok [n % 4294967296, n / 4294967296] := by
  refine ⟨by simp [val]; omega, ?_⟩
  intro x hx
  simp at hx
  omega
theorem Of_pos (n : Nat) (h1 : n < 9223372036854775808) (w : World) : Calls Try.prog 19 #[.int .i64 n] w (RNE (n, 0) w) := by
  refine calls_b fun g => ?_
  obtain ⟨hv, hk⟩ := two_limbs n h1
  have HV := Lib.hid hv
  have e1 : (((n % 4294967296 : Nat)) : Int) = (n : Int) % 4294967296 := by omega
  have e2 : (((n / 4294967296 : Nat)) : Int) = (n : Int) / 4294967296 := by omega
  have E1 := Lib.hid e1
  have E2 := Lib.hid e2
  clear hv e1 e2
  go_enter Try.func19, Try.ntmps19
  go_wp2_with (with_reducible refine G.any_mark _ ?_; (try generalize Array.size (World.heap (G.w _)) = bk); (try dsimp only [List.set_cons_zero, List.set_cons_succ]); (try clear g); intro g)
  obtain ⟨g2, hg2⟩ := g.as (M' := [(bk, 30, u32s [n % 4294967296, n / 4294967296])]) (by simp only [u32s, List.map_cons, List.map_nil, E1.out, E2.out])
  rw [hg2]
  clear hg2 g
  revert g2
  intro g
  have hsl : SlW g.w (some ⟨bk, 0, none⟩) 2 [n % 4294967296, n / 4294967296] := (sl_blk (by simp) (by decide) hk).at (blkF_sub g.blk0)
  refine (trim_any _ _ [n % 4294967296, n / 4294967296] _ hsl).mono ?_
  rintro e w1 ⟨rfl, hb⟩
  obtain ⟨g1, rfl⟩ := G.call_ex _ hb
  clear hb hsl g
  revert g1
  intro g
  rw [HV.out]
  have hfin : (blkF bk (.cells (u32s [n % 4294967296, n / 4294967296]).toArray 30 (0, 0))).Sl (some ⟨bk, 0, none⟩) 2 (limbs n) := by
    have := sl_trim (sl_blk (b := bk) (T := 30) (fr := (0, 0)) (c := 2) (by simp) (by decide) hk)
    rwa [HV.out] at this
  go_wp2_with (with_reducible refine G.any_mark _ ?_; (try generalize Array.size (World.heap (G.w _)) = bk); (try dsimp only [List.set_cons_zero, List.set_cons_succ]); (try clear g); intro g)
  go_ret2
  exact ⟨_, 2, _, rfl, hfin, g.give (List.mem_cons_self ..)⟩
theorem Bits_ok (A : Option Addr) (c : Nat) (v : Nat) (w : World) (h : SlW w A c (limbs v)) (hv : v < 2 ^ 8192) :
    Calls Try.prog 40 #[.slice A (limbs v).length c] w fun e w' => e = .returned (.tuple #[.int .i64 (nb v : Nat), .int .i64 0]) ∧ Below w.heap.size w w' := by
  refine calls_b fun g => ?_
  have hl : (limbs v).length ≤ 256 := (limbs_len v 256).2 (by rw [pow32]; exact hv)
  have hc : chk (limbs v) = 0 := by
    unfold chk
    rw [if_neg (by omega), if_neg]
    rintro ⟨h0, h1⟩
    exact trim_limbs v ((limbs v).length - 1) (by omega) h1
  have C1 := Lib.hid (fun w h => check_any A c (limbs v) w h)
  rw [hc] at C1
  have C2 := Lib.hid (fun w h => length_any A c v w h (by omega))
  clear hc hv hl
  generalize (limbs v).length = n at *
  generalize nb v = m at *
  go_enter Try.func40, Try.ntmps40
  go_wp2_with (with_reducible refine G.any_mark _ ?_; (try generalize Array.size (World.heap (G.w _)) = bk); (try dsimp only [List.set_cons_zero, List.set_cons_succ]); (try clear g); intro g)
  refine (C1.out _ (g.sl (by simp) h)).mono ?_; rintro e w1 ⟨rfl, hb⟩; obtain ⟨g1, rfl⟩ := G.call_ex _ hb; clear hb; revert g1; intro g
  go_wp2_with (with_reducible refine G.any_mark _ ?_; (try generalize Array.size (World.heap (G.w _)) = bk); (try dsimp only [List.set_cons_zero, List.set_cons_succ]); (try clear g); intro g)
  refine (C2.out _ (g.sl (by simp) h)).mono ?_; rintro e w1 ⟨rfl, hb⟩; obtain ⟨g1, rfl⟩ := G.call_ex _ hb; clear hb; revert g1; intro g
  go_wp2_with (with_reducible refine G.any_mark _ ?_; (try generalize Array.size (World.heap (G.w _)) = bk); (try dsimp only [List.set_cons_zero, List.set_cons_succ]); (try clear g); intro g)
  go_ret2
  exact ⟨rfl, g.below⟩
end Go.Proofs.Ytfifcpgjcgoinaa
