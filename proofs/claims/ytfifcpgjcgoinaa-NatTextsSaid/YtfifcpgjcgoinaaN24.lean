/- Contracts of functions of the program, out of walks. Their conditions stand ahead of each. -/
import Derived.Test.YtfifcpgjcgoinaaN23
import Derived.Test.YtfifcpgjcgoinaaN18
set_option linter.unusedVariables false
set_option linter.unusedSimpArgs false
set_option exponentiation.threshold 10000
namespace Go.Proofs.Ytfifcpgjcgoinaa
open Go.RowKit GW NL
theorem Mul_ok (A1 A2 : Option Addr) (c1 c2 a b : Nat) (w : World) (h1 : SlW w A1 c1 (limbs a)) (h2 : SlW w A2 c2 (limbs b)) (ha : a < 2 ^ 8192) (hb : b < 2 ^ 8192) (hab : a * b < 2 ^ 8192) :
    Calls Try.prog 14 #[.slice A1 (limbs a).length c1, .slice A2 (limbs b).length c2] w (RNE (a * b, 0) w) := by
  have l1 : (limbs a).length ≤ 256 := (limbs_len a 256).2 (by rw [pow32]; exact ha)
  have l2 : (limbs b).length ≤ 256 := (limbs_len b 256).2 (by rw [pow32]; exact hb)
  have := Mul_any A1 A2 c1 c2 (limbs a) (limbs b) w h1 h2 (by omega) (by omega)
  rw [val_limbs, val_limbs] at this
  have hx : chk2 (limbs a) (limbs b) = 0 := by unfold chk2; rw [chk_limbs ha, chk_limbs hb]; rfl
  rw [hx] at this
  unfold outN at this
  rwa [if_neg (by simp), if_pos hab] at this
theorem Add_ok (A1 A2 : Option Addr) (c1 c2 a b : Nat) (w : World) (h1 : SlW w A1 c1 (limbs a)) (h2 : SlW w A2 c2 (limbs b)) (ha : a < 2 ^ 8192) (hb : b < 2 ^ 8192) (hab : a + b < 2 ^ 8192) :
    Calls Try.prog 17 #[.slice A1 (limbs a).length c1, .slice A2 (limbs b).length c2] w (RNE (a + b, 0) w) := by
  have l1 : (limbs a).length ≤ 256 := (limbs_len a 256).2 (by rw [pow32]; exact ha)
  have l2 : (limbs b).length ≤ 256 := (limbs_len b 256).2 (by rw [pow32]; exact hb)
  have := Add_any A1 A2 c1 c2 (limbs a) (limbs b) w h1 h2 (by omega) (by omega)
  rw [val_limbs, val_limbs] at this
  have hx : chk2 (limbs a) (limbs b) = 0 := by unfold chk2; rw [chk_limbs ha, chk_limbs hb]; rfl
  rw [hx] at this
  unfold outN at this
  rwa [if_neg (by simp), if_pos hab] at this
theorem Sub_ok (A1 A2 : Option Addr) (c1 c2 a b : Nat) (w : World) (h1 : SlW w A1 c1 (limbs a)) (h2 : SlW w A2 c2 (limbs b)) (ha : a < 2 ^ 8192) (hb : b < 2 ^ 8192) (hab : b ≤ a) :
    Calls Try.prog 25 #[.slice A1 (limbs a).length c1, .slice A2 (limbs b).length c2] w (RNE (a - b, 0) w) := by
  have := Sub_any A1 A2 c1 c2 (limbs a) (limbs b) w h1 h2
  rw [val_limbs, val_limbs] at this
  have hx : chk2 (limbs a) (limbs b) = 0 := by unfold chk2; rw [chk_limbs ha, chk_limbs hb]; rfl
  rw [hx] at this
  unfold outS at this
  rwa [if_neg (by simp), if_neg (by omega)] at this
theorem is_yes (A1 A2 : Option Addr) (c1 c2 : Nat) (l : List Nat) (w : World) (h1 : SlW w A1 c1 l) (h2 : SlW w A2 c2 l) :
    Calls Try.prog 45 #[.slice A1 l.length c1, .int .i64 0, .slice A2 l.length c2] w fun e w' => e = .returned (.bool true) ∧ Below w.heap.size w w' := by
  refine calls_b fun g => ?_
  have CS := Lib.hid (fun w h1 h2 => same_any A1 A2 c1 c2 l w h1 h2)
  generalize l.length = n at *
  go_enter Try.func45, Try.ntmps45
  go_wp2_with (with_reducible refine G.any_mark _ ?_; (try generalize Array.size (World.heap (G.w _)) = bk); (try dsimp only [List.set_cons_zero, List.set_cons_succ]); (try clear g); intro g)
  refine (CS.out _ (G.sl g (by simp) h1) (G.sl g (by simp) h2)).mono ?_
  rintro e w1 ⟨rfl, hb⟩
  obtain ⟨g1, rfl⟩ := G.call_ex _ hb
  clear hb
  (try clear g)
  revert g1
  intro g
  go_wp2_with (with_reducible refine G.any_mark _ ?_; (try generalize Array.size (World.heap (G.w _)) = bk); (try dsimp only [List.set_cons_zero, List.set_cons_succ]); (try clear g); intro g)
  go_ret
  exact ⟨rfl, g.below⟩
/-- the limbs that valid leaves -/
def cut (l : List Nat) (n : Nat) : Nat := val (l.take n)
set_option maxRecDepth 20000 in
theorem valid_any (A : Option Addr) (c : Nat) (l : List Nat) (m : Nat) (w : World) (h : SlW w A c l) (hl9 : l.length ≤ 35184372088832) (hm : m ≤ 1000000) :
    Calls Try.prog 12 #[.slice A l.length c, .int .i64 (m : Int)] w (RNat (cut l m) w) := by
  refine calls_b fun g => ?_
  have hk := h.ok
  have CO := Lib.hid (fun w h => own_any A c l w h hl9)
  unfold cut
  obtain ⟨n, hn⟩ : ∃ n, (l.take m).length = n := ⟨_, rfl⟩
  have hml : (l.length ≤ m ∧ n = l.length) ∨ (m < l.length ∧ n = m) := by rw [List.length_take] at hn; omega
  obtain ⟨l', hl'⟩ : ∃ l', l.take m = l' := ⟨_, rfl⟩
  rw [hl'] at hn ⊢
  have HLP := Lib.hid hl'
  clear hl'
  have HN := Lib.hid hn
  clear hn
  obtain ⟨L, hL⟩ : ∃ L, l.length = L := ⟨_, rfl⟩
  rw [hL] at CO hml ⊢
  have HL := Lib.hid hL
  clear hL
  go_enter Try.func12, Try.ntmps12
  go_wp2_with (with_reducible refine G.any_mark _ ?_; (try generalize Array.size (World.heap (G.w _)) = bk); (try dsimp only [List.set_cons_zero, List.set_cons_succ]); (try clear g); intro g)
  refine (CO.out _ (G.sl g (by simp) h)).mono ?_
  rintro e w1 ⟨A1, c1, F, rfl, hs, hnw⟩
  have hnn := fun k o hk => Nat.le_trans g.chg.size (hnw.new k o hk)
  obtain ⟨g1, rfl⟩ := G.new_ex _ hnw
  clear hnw g CO
  revert g1
  intro g
  rw [HL.out]
  have hs2 := hs.take m
  rw [HLP.out] at hs2
  have hmx := hs.max
  have hcp := hs.cap
  rw [HL.out] at hcp
  clear hs HL HLP
  rcases hml with ⟨h1, h2⟩ | ⟨h1, h2⟩
  · subst h2
    have hlt : ¬ ((m : Int) < (n : Int)) := by omega
    go_wp2_with (with_reducible refine G.any_mark _ ?_; (try generalize Array.size (World.heap (G.w _)) = bk); (try dsimp only [List.set_cons_zero, List.set_cons_succ]); (try clear g); intro g)
    go_loopw [5] (fun v wr => ∃ k : Nat, k ≤ n ∧ v = .slice A1 k c1 ∧ Hid (val (l'.take k) = val l') ∧ ∃ g : G w [] [] [F, heapOf w], wr = g.w) (fun v _ => match v with | .slice _ k _ => k | _ => 0)
    case atStart => exact ⟨n, Nat.le_refl _, rfl, Lib.hid (by rw [← HN.out, List.take_length]), g, rfl⟩
    case round =>
      clear g
      obtain ⟨k, hk1, rfl, HV, g, rfl⟩ := hrel
      by_cases h0 : 0 < k
      · have hkn : k - 1 < l'.length := by rw [HN.out]; omega
        obtain ⟨b, o, rfl, hcell⟩ := lim_cells hs2.lim (by omega)
        have e1 := hcell (k - 1) hkn _ _ _ _ g (by simp)
        clear hcell hkn
        have h0' : (0 : Int) < (k : Int) := by omega
        by_cases hx : l'.getD (k - 1) 0 = 0
        · have hv' : val (l'.take (k - 1)) = val l' := by
            rw [← HV.out]
            have := val_take_getD l' (k - 1)
            rw [show k - 1 + 1 = k by omega, hx] at this
            omega
          have HV' := Lib.hid hv'
          clear hv'
          have hx1 : (((l'.getD (k - 1) 0 : Nat) : Int) == 0) = true := by simp only [hx]; rfl
          clear hx
          generalize ((l'.getD (k - 1) 0 : Nat) : Int) = v at *
          go_wp2_with fail
          refine ⟨⟨k - 1, by omega, ?_, HV', g, rfl⟩, ?_⟩
          · rfl
          · dsimp only; omega
        · have hn' : (limbs (val l')).length = k := by
            have hl : (l'.take k).length = k := by rw [List.length_take, HN.out]; omega
            have t : Trim (l'.take k) := by
              intro j hj
              rw [hl] at hj
              rw [getD_take (by omega), show j = k - 1 by omega]
              exact hx
            rw [← HV.out, limbs_val (hs2.ok.take k) t, hl]
          have HN2 := Lib.hid hn'
          clear hn'
          have hx1 : (((l'.getD (k - 1) 0 : Nat) : Int) == 0) = false := by simp only [beq_eq_false_iff_ne, ne_eq]; omega
          clear hx
          generalize ((l'.getD (k - 1) 0 : Nat) : Int) = v at *
          go_wp2_with fail
          go_ret
          exact ⟨_, _, F, ret_slice HN2.out.symm, sl_trim hs2, g.pass (by simp) hnn⟩
      · obtain rfl : k = 0 := by omega
        have hn' : (limbs (val l')).length = 0 := by
          have := HV.out
          rw [List.take_zero] at this
          rw [← this]
          rw [show val [] = 0 from rfl, limbs_zero]; rfl
        have HN2 := Lib.hid hn'
        clear hn'
        go_wp2_with fail
        go_ret
        exact ⟨_, _, F, ret_slice HN2.out.symm, sl_trim hs2, g.pass (by simp) hnn⟩

  · subst h2
    have hlt : (n : Int) < (L : Int) := by omega
    have hnc : n ≤ c1 := by omega
    have hnc2 : (n : Int) ≤ (c1 : Int) := by omega
    go_wp2_with (with_reducible refine G.any_mark _ ?_; (try generalize Array.size (World.heap (G.w _)) = bk); (try dsimp only [List.set_cons_zero, List.set_cons_succ]); (try clear g); intro g)
    go_loopw [5] (fun v wr => ∃ k : Nat, k ≤ n ∧ v = .slice A1 k c1 ∧ Hid (val (l'.take k) = val l') ∧ ∃ g : G w [] [] [F, heapOf w], wr = g.w) (fun v _ => match v with | .slice _ k _ => k | _ => 0)
    case atStart => exact ⟨n, Nat.le_refl _, rfl, Lib.hid (by rw [← HN.out, List.take_length]), g, rfl⟩
    case round =>
      clear g
      obtain ⟨k, hk1, rfl, HV, g, rfl⟩ := hrel
      by_cases h0 : 0 < k
      · have hkn : k - 1 < l'.length := by rw [HN.out]; omega
        obtain ⟨b, o, rfl, hcell⟩ := lim_cells hs2.lim (by omega)
        have e1 := hcell (k - 1) hkn _ _ _ _ g (by simp)
        clear hcell hkn
        have h0' : (0 : Int) < (k : Int) := by omega
        by_cases hx : l'.getD (k - 1) 0 = 0
        · have hv' : val (l'.take (k - 1)) = val l' := by
            rw [← HV.out]
            have := val_take_getD l' (k - 1)
            rw [show k - 1 + 1 = k by omega, hx] at this
            omega
          have HV' := Lib.hid hv'
          clear hv'
          have hx1 : (((l'.getD (k - 1) 0 : Nat) : Int) == 0) = true := by simp only [hx]; rfl
          clear hx
          generalize ((l'.getD (k - 1) 0 : Nat) : Int) = v at *
          go_wp2_with fail
          refine ⟨⟨k - 1, by omega, ?_, HV', g, rfl⟩, ?_⟩
          · rfl
          · dsimp only; omega
        · have hn' : (limbs (val l')).length = k := by
            have hl : (l'.take k).length = k := by rw [List.length_take, HN.out]; omega
            have t : Trim (l'.take k) := by
              intro j hj
              rw [hl] at hj
              rw [getD_take (by omega), show j = k - 1 by omega]
              exact hx
            rw [← HV.out, limbs_val (hs2.ok.take k) t, hl]
          have HN2 := Lib.hid hn'
          clear hn'
          have hx1 : (((l'.getD (k - 1) 0 : Nat) : Int) == 0) = false := by simp only [beq_eq_false_iff_ne, ne_eq]; omega
          clear hx
          generalize ((l'.getD (k - 1) 0 : Nat) : Int) = v at *
          go_wp2_with fail
          go_ret
          exact ⟨_, _, F, ret_slice HN2.out.symm, sl_trim hs2, g.pass (by simp) hnn⟩
      · obtain rfl : k = 0 := by omega
        have hn' : (limbs (val l')).length = 0 := by
          have := HV.out
          rw [List.take_zero] at this
          rw [← this]
          rw [show val [] = 0 from rfl, limbs_zero]; rfl
        have HN2 := Lib.hid hn'
        clear hn'
        go_wp2_with fail
        go_ret
        exact ⟨_, _, F, ret_slice HN2.out.symm, sl_trim hs2, g.pass (by simp) hnn⟩

end Go.Proofs.Ytfifcpgjcgoinaa
