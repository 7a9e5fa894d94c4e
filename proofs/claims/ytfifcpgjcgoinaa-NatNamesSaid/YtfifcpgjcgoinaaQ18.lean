/- Plain facts and contracts of functions of the program, out of walks. Their conditions stand ahead of each. -/
import Derived.Test.YtfifcpgjcgoinaaQ17
set_option linter.unusedVariables false
set_option linter.unusedSimpArgs false
set_option exponentiation.threshold 10000
namespace Go.Proofs.Ytfifcpgjcgoinaa
open Go.RowKit GW NL
theorem Root_err (A : Option Addr) (c : Nat) (l : List Nat) (w : World) (h : SlW w A c l) (hx : chk l ≠ 0) :
    Calls Try.prog 31 #[.slice A l.length c] w (RNE (0, chk l) w) := by
  refine calls_b fun g => ?_
  have C1 := Lib.hid (fun w h => check_any A c l w h)
  have hx' : (chk l == 0) = false := by simpa using hx
  clear hx
  generalize chk l = r at *
  generalize l.length = k at *
  go_enter Try.func31, Try.ntmps31
  go_wp2_with (with_reducible refine G.any_mark _ ?_; (try generalize Array.size (World.heap (G.w _)) = bk); (try dsimp only [List.set_cons_zero, List.set_cons_succ]); (try clear g); intro g)
  refine (C1.out _ (G.sl g (by simp) h)).mono ?_
  rintro e w1 ⟨rfl, hb⟩
  obtain ⟨g1, rfl⟩ := G.call_ex _ hb
  clear hb
  (try clear g)
  revert g1
  intro g
  go_wp2_with (with_reducible refine G.any_mark _ ?_; (try generalize Array.size (World.heap (G.w _)) = bk); (try dsimp only [List.set_cons_zero, List.set_cons_succ]); (try clear g); intro g)
  go_ret2
  exact rne_err g r
theorem Root_zero (A : Option Addr) (c : Nat) (w : World) (h : SlW w A c []) :
    Calls Try.prog 31 #[.slice A 0 c] w (RNE (0, 0) w) := by
  refine calls_b fun g => ?_
  have C1 := Lib.hid (fun w h => check_any A c [] w h)
  have hck : chk [] = 0 := by decide
  rw [hck, List.length_nil] at C1
  go_enter Try.func31, Try.ntmps31
  go_wp2_with (with_reducible refine G.any_mark _ ?_; (try generalize Array.size (World.heap (G.w _)) = bk); (try dsimp only [List.set_cons_zero, List.set_cons_succ]); (try clear g); intro g)
  refine (C1.out _ (G.sl g (by simp) h)).mono ?_
  rintro e w1 ⟨rfl, hb⟩
  obtain ⟨g1, rfl⟩ := G.call_ex _ hb
  clear hb
  (try clear g)
  revert g1
  intro g
  go_wp2_with (with_reducible refine G.any_mark _ ?_; (try generalize Array.size (World.heap (G.w _)) = bk); (try dsimp only [List.set_cons_zero, List.set_cons_succ]); (try clear g); intro g)
  go_ret2
  exact rne_err g 0
set_option maxRecDepth 20000 in
theorem Root_pos (A : Option Addr) (c v : Nat) (w : World) (h : SlW w A c (limbs v)) (hv : v < 2 ^ 8192) (h0 : v ≠ 0) :
    Calls Try.prog 31 #[.slice A (limbs v).length c] w (RNE (rt v, 0) w) := by
  refine calls_b fun g => ?_
  have hl : (limbs v).length ≤ 256 := (limbs_len v 256).2 (by rw [pow32]; exact hv)
  have C1 := Lib.hid (fun w h => check_any A c (limbs v) w h)
  rw [chk_limbs hv] at C1
  have C2 := Lib.hid (fun w h => length_any A c v w h (by omega))
  have hnb : nb v ≤ 8192 := (nb_le v 8192).2 hv
  obtain ⟨s, hs⟩ : ∃ s, (nb v + 1) / 2 = s := ⟨_, rfl⟩
  have hsi : Int.tdiv ((nb v : Nat) + 1 : Int) 2 = (s : Int) := by rw [Int.tdiv_eq_ediv_of_nonneg (by omega)]; omega
  have hs9 : s ≤ 5000 := by omega
  have HST := Lib.hid (root_start v)
  rw [hs] at HST
  have ee : limbs 1 = [1] := lim1 (by decide) (by decide)
  have hL1 : (limbs 1).length = 1 := by rw [ee]; rfl
  have CSH : Hid (∀ (A : Option Addr) w, SlW w A 1 (limbs 1) → Calls Try.prog 66 #[.slice A 1 1, .int .i64 (s : Int)] w (RNat (2 ^ s) w)) := Lib.hid (fun A w h => by
    have := shift_up A 1 (limbs 1) s w h (by omega) (by omega)
    rwa [val_limbs, Nat.one_mul, hL1] at this)
  have n1' : Hid ((limbs 1).length = 1 ∧ [Value.int .u32 1] = u32s (limbs 1)) := Lib.hid ⟨hL1, by rw [ee]; rfl⟩
  have hne : (((limbs v).length : Int) == 0) = false := by
    have := len_ne h0
    rw [beq_eq_false_iff_ne]; omega
  have HX0 : Hid (2 ^ s < 2 ^ 8192) := Lib.hid (Nat.pow_lt_pow_right (by decide) (by omega))
  have HP0 : Hid (0 < 2 ^ s) := Lib.hid (Nat.two_pow_pos s)
  have H0 := Lib.hid h0
  have HV := Lib.hid hv
  generalize nb v = b at *
  clear hv h0 hs ee hL1
  generalize 2 ^ s = X at *
  go_enter Try.func31, Try.ntmps31
  go_wp2_with (with_reducible refine G.any_mark _ ?_; (try generalize Array.size (World.heap (G.w _)) = bk); (try dsimp only [List.set_cons_zero, List.set_cons_succ]); (try clear g); intro g)
  refine (C1.out _ (G.sl g (by simp) h)).mono ?_
  rintro e w1 ⟨rfl, hb⟩
  obtain ⟨g1, rfl⟩ := G.call_ex _ hb
  clear hb
  (try clear g)
  revert g1
  intro g
  go_wp2_with (with_reducible refine G.any_mark _ ?_; (try generalize Array.size (World.heap (G.w _)) = bk); (try dsimp only [List.set_cons_zero, List.set_cons_succ]); (try clear g); intro g)
  refine (C2.out _ (G.sl g (by simp) h)).mono ?_
  rintro e w1 ⟨rfl, hb⟩
  obtain ⟨g1, rfl⟩ := G.call_ex _ hb
  clear hb
  (try clear g)
  revert g1
  intro g
  go_wp2_with (with_reducible refine G.any_mark _ ?_; (try generalize Array.size (World.heap (G.w _)) = bk); (try dsimp only [List.set_cons_zero, List.set_cons_succ]); (try clear g); intro g)
  refine (CSH.out _ _ (G.lit0 g _ _ n1'.out.2 n1'.out.1 (by decide))).mono ?_
  rintro e w1 ⟨Ax, cx, Fx, rfl, hsx, hn⟩
  have hnnx := fun k o hk => Nat.le_trans g.chg.size (hn.new k o hk)
  obtain ⟨g1, rfl⟩ := G.new_ex _ hn
  clear hn
  (try clear g)
  revert g1
  intro g
  obtain ⟨g2, hg2⟩ := G.less g (M' := []) (List.nil_sublist _)
  rw [hg2]
  clear hg2
  (try clear g)
  revert g2
  intro g
  go_wp2_with fail
  go_loopg [5] X (fun gk s5 wr => ∃ (A5 : Option Addr) (c5 : Nat) (F5 : Frag), s5 = .slice A5 (limbs gk).length c5 ∧ F5.Sl A5 c5 (limbs gk) ∧ Hid (∀ k o, F5 k = some o → w.heap.size ≤ k) ∧ Hid (v < (gk + 1) * (gk + 1) ∧ 0 < gk ∧ gk < 2 ^ 8192) ∧ ∃ g : G w [] [] [F5, heapOf w], wr = g.w)
  case atStart => exact ⟨Ax, cx, Fx, rfl, hsx, hnnx, ⟨HST.out, HP0.out, HX0.out⟩, g, rfl⟩
  case round =>
    clear g hnnx hsx HST HP0 HX0 C1 C2 CSH
    obtain ⟨A5, c5, F5, rfl, hs5, HN5, HI, g, rfl⟩ := hrel
    have CD := Lib.hid (fun w h1 h2 => divide_any A A5 c c5 v gk w h1 h2 (by omega) (by have := HI.out.2.1; omega))
    have hlg : (limbs gk).length ≤ 256 := (limbs_len gk 256).2 (by rw [pow32]; exact HI.out.2.2)
    have hlq : (limbs (v / gk)).length ≤ 256 := (limbs_len _ 256).2 (by rw [pow32]; exact Nat.lt_of_le_of_lt (Nat.div_le_self _ _) HV.out)
    have CA := Lib.hid (fun A1 A2 c1 c2 w h1 h2 => add_any A1 A2 c1 c2 (limbs gk) (limbs (v / gk)) w h1 h2 (by omega) (by omega))
    rw [val_limbs, val_limbs] at CA
    have hls : (limbs (gk + v / gk)).length ≤ 257 := (limbs_len _ 257).2 (by
      have h1 := (limbs_len gk _).1 hlg
      have h2 := (limbs_len (v / gk) _).1 hlq
      have : 4294967296 ^ 257 = 4294967296 ^ 256 * 4294967296 := Nat.pow_succ ..
      rw [this]
      generalize 4294967296 ^ 256 = P at *
      omega)
    have CS1 := Lib.hid (fun A1 c1 w h1 => shift_down A1 c1 (limbs (gk + v / gk)) 1 (-1) w h1 (by omega) rfl (by decide) (by decide))
    rw [val_limbs, Nat.pow_one] at CS1
    have HNW := Lib.hid (newton_ge v gk HI.out.2.1)
    have HNE := Lib.hid (fun h => newton_end (v := v) HI.out.2.1 HI.out.1 h)
    have HNP := Lib.hid (newton_pos HI.out.2.1 (Nat.pos_of_ne_zero H0.out))
    generalize v / gk = q at *
    obtain ⟨t, ht⟩ : ∃ t, gk + q = t := ⟨_, rfl⟩
    rw [ht] at CA CS1 HNW HNE HNP hls
    obtain ⟨x, hx⟩ : ∃ x, t / 2 = x := ⟨_, rfl⟩
    rw [hx] at CS1 HNW HNE HNP
    have hxl : (limbs x).length ≤ 257 := Nat.le_trans (limbs_len_mono (by omega)) hls
    have CC := Lib.hid (fun A1 A2 c1 c2 w h1 h2 => compare_any A1 A2 c1 c2 x gk w h1 h2 (by omega))
    have ho : ord x gk < 0 ↔ x < gk := by unfold ord; split <;> (try split) <;> omega
    obtain ⟨r, hr⟩ : ∃ r, v % gk = r := ⟨_, rfl⟩
    rw [hr] at CD
    generalize ord x gk = C at *
    clear ht hx hr hls hxl hlq
    go_wp2_with (with_reducible refine G.any_mark _ ?_; (try generalize Array.size (World.heap (G.w _)) = bk); (try dsimp only [List.set_cons_zero, List.set_cons_succ]); (try clear g); intro g)
    refine (CD.out _ (G.sl g (by simp) h) (G.sl g (by simp) hs5)).mono ?_
    rintro e w1 ⟨Aq, cq, Fq, Ar, cr, Fr, rfl, hsq, hsr, hn1, hn2⟩
    obtain ⟨g1, rfl⟩ := G.new2_ex _ hn1 hn2
    clear hn1 hn2 g
    revert g1
    intro g
    go_wp2_with (with_reducible refine G.any_mark _ ?_; (try generalize Array.size (World.heap (G.w _)) = bk); (try dsimp only [List.set_cons_zero, List.set_cons_succ]); (try clear g); intro g)
    refine (CA.out _ _ _ _ _ (G.sl g (by simp) hs5) (G.sl g (by simp) hsq)).mono ?_
    rintro e w1 ⟨At, ct, Ft, rfl, hst, hn⟩
    have hnnt := fun k o hk => Nat.le_trans g.chg.size (hn.new k o hk)
    obtain ⟨g1, rfl⟩ := G.new_ex _ hn
    clear hn
    (try clear g)
    revert g1
    intro g
    go_wp2_with (with_reducible refine G.any_mark _ ?_; (try generalize Array.size (World.heap (G.w _)) = bk); (try dsimp only [List.set_cons_zero, List.set_cons_succ]); (try clear g); intro g)
    refine (CS1.out _ _ _ (G.sl g (by simp) hst)).mono ?_
    rintro e w1 ⟨Ax, cx, Fx, rfl, hsx, hn⟩
    have hnnx := fun k o hk => Nat.le_trans g.chg.size (hn.new k o hk)
    obtain ⟨g1, rfl⟩ := G.new_ex _ hn
    clear hn
    (try clear g)
    revert g1
    intro g
    go_wp2_with (with_reducible refine G.any_mark _ ?_; (try generalize Array.size (World.heap (G.w _)) = bk); (try dsimp only [List.set_cons_zero, List.set_cons_succ]); (try clear g); intro g)
    refine (CC.out _ _ _ _ _ (G.sl g (by simp) hsx) (G.sl g (by simp) hs5)).mono ?_
    rintro e w1 ⟨rfl, hb⟩
    obtain ⟨g1, rfl⟩ := G.call_ex _ hb
    clear hb
    (try clear g)
    revert g1
    intro g
    by_cases hlt : x < gk
    · have hC : C < 0 := ho.2 hlt
      have HLT := Lib.hid hlt
      clear ho hlt
      go_wp2_with (with_reducible refine G.any_mark _ ?_; (try generalize Array.size (World.heap (G.w _)) = bk); (try dsimp only [List.set_cons_zero, List.set_cons_succ]); (try clear g); intro g)
      obtain ⟨g3, hg3⟩ := g.lessI (I' := [Fx, heapOf w]) (by simp)
      go_roundg x
      case measure => exact HLT.out
      case rel => exact ⟨Ax, cx, Fx, rfl, hsx, hnnx, ⟨HNW.out, HNP.out, Nat.lt_trans HLT.out HI.out.2.2⟩, g3, hg3⟩
    · have hC : 0 ≤ C := by have h3 := fun h => hlt (ho.1 h); omega
      have hrt : rt v = gk := rt_eq (HNE.out (by omega))
      have HR := Lib.hid hrt
      clear ho hlt hrt
      go_wp2_with (with_reducible refine G.any_mark _ ?_; (try generalize Array.size (World.heap (G.w _)) = bk); (try dsimp only [List.set_cons_zero, List.set_cons_succ]); (try clear g); intro g)
      go_ret2
      rw [HR.out]
      exact rne_pass g hs5 (by simp) HN5.out 0
end Go.Proofs.Ytfifcpgjcgoinaa
