/- Plain facts and contracts of functions of the program, out of walks. Their conditions stand ahead of each. -/
import Derived.Test.YtfifcpgjcgoinaaQ21
import Derived.Test.YtfifcpgjcgoinaaQ22
set_option linter.unusedVariables false
set_option linter.unusedSimpArgs false
set_option exponentiation.threshold 10000
namespace Go.Proofs.Ytfifcpgjcgoinaa
open Go.RowKit GW NL
set_option maxHeartbeats 2000000 in
theorem radd_any (A1 A2 : Option Addr) (c1 c2 a b : Nat) (w : World) (h1 : SlW w A1 c1 (limbs a)) (h2 : SlW w A2 c2 (limbs b)) (hl1 : (limbs a).length ≤ 1000000000) (hl2 : (limbs b).length ≤ 1000000000) :
    Calls Try.prog 71 #[.slice A1 (limbs a).length c1, .slice A2 (limbs b).length c2] w (RNat (a + b) w) := by
  refine calls_b fun g => ?_
  obtain ⟨n1, hn1⟩ : ∃ n, (limbs a).length = n := ⟨_, rfl⟩
  obtain ⟨n2, hn2⟩ : ∃ n, (limbs b).length = n := ⟨_, rfl⟩
  obtain ⟨M, hM⟩ : ∃ M, max n1 n2 = M := ⟨_, rfl⟩
  have HS := Lib.hid (AddI.start (limbs a) (limbs b) M)
  have CL1 := Lib.hid (fun k (hk : k ≤ 1000000001) w h => rlimb_any A1 c1 (limbs a) k w h (by omega))
  have CL2 := Lib.hid (fun k (hk : k ≤ 1000000001) w h => rlimb_any A2 c2 (limbs b) k w h (by omega))
  rw [hn1] at CL1 hl1 ⊢
  rw [hn2] at CL2 hl2 ⊢
  have HN1 := Lib.hid hn1
  have HN2 := Lib.hid hn2
  have HM : Hid (n1 ≤ M ∧ n2 ≤ M ∧ (M = n1 ∨ M = n2) ∧ M ≤ 1000000000) := Lib.hid (by omega)
  have o1 := ok_limbs a
  have o2 := ok_limbs b
  obtain ⟨i0, hi, hzz0, hzz1, hzz2⟩ := info_parts infoU32
  clear hn1 hn2 hM
  go_enter Try.func71, Try.ntmps71
  go_wp2_with (with_reducible refine G.any_mark _ ?_; (try generalize Array.size (World.heap (G.w _)) = bk); (try dsimp only [List.set_cons_zero, List.set_cons_succ]); (try clear g); intro g)
  go_loopg [5, 6, 7] (M + 1) (fun gk s5 s6 s7 wr => ∃ (k c : Nat) (pre : List Nat), k + gk = M + 1 ∧ s6 = .int .u64 (c : Int) ∧ s7 = .int .i64 (k : Int) ∧ Hid (AddI (limbs a) (limbs b) M k c pre) ∧ ((pre = [] ∧ s5 = .slice none 0 0 ∧ ∃ g : G w [] [] [heapOf w], wr = g.w) ∨ (∃ b cap cs, s5 = .slice (some ⟨b, 0, none⟩) k cap ∧ Row 30 1 k (u32s pre) cap cs ∧ w.heap.size ≤ b ∧ ∃ g : G w [] [(b, 30, cs)] [heapOf w], wr = g.w)))
  case atStart => exact ⟨0, 0, [], by omega, rfl, rfl, HS, .inl ⟨rfl, rfl, g, rfl⟩⟩
  case round =>
    clear g HS
    obtain ⟨k, c, pre, hkg, rfl, rfl, HA, hst⟩ := hrel
    have hM := HM.out
    have hc1 := HA.out.lt
    by_cases hgo : k < n1 ∨ k < n2 ∨ 0 < c
    · have hkM : k ≤ M := by
        rcases Nat.lt_or_ge k (M + 1) with h | h
        · omega
        · exfalso
          obtain rfl : k = M + 1 := by omega
          have := HA.out.done o1 o2 (by rw [HN1.out]; omega) (by rw [HN2.out]; omega)
          omega
      have HA2 := Lib.hid (HA.out.next o1 o2 (by rw [HN1.out]; omega) (by rw [HN2.out]; omega) (by rw [HN1.out, HN2.out]; omega) hkM (by omega))
      have CLa := Lib.hid (CL1.out k (by omega))
      have CLb := Lib.hid (CL2.out k (by omega))
      have hx := o1.getD k
      have hy := o2.getD k
      have hpl := HA.out.len
      generalize (limbs a).getD k 0 = x at *
      generalize (limbs b).getD k 0 = y at *
      obtain ⟨t, ht⟩ : ∃ t, c + x + y = t := ⟨_, rfl⟩
      have ht9 : t < 18446744073709551616 := by omega
      obtain ⟨cx, hcx⟩ : ∃ cx, c + x = cx := ⟨_, rfl⟩
      have f1 : (c : Int) + (x : Int) = (cx : Int) := by omega
      have f2 : (cx : Int) + (y : Int) = (t : Int) := by omega
      have f3 : IntKind.u64.wrap (cx : Int) = (cx : Int) := by rw [IntKind.wrap_u64]; omega
      have f4 : IntKind.u64.wrap (t : Int) = (t : Int) := by rw [IntKind.wrap_u64]; omega
      obtain ⟨lo, hlo⟩ : ∃ lo, t % 4294967296 = lo := ⟨_, rfl⟩
      obtain ⟨hi', hhi⟩ : ∃ hi', t / 4294967296 = hi' := ⟨_, rfl⟩
      have f5 : IntKind.u32.wrap (t : Int) = (lo : Int) := by rw [IntKind.wrap_u32]; omega
      have f6 : (t : Int) / 4294967296 = (hi' : Int) := by omega
      rw [ht, hlo, hhi] at HA2
      have H1 : ∀ u ∈ [Value.int .u32 (lo : Int)], u.oneCell' = true := by intro u hu; rw [List.mem_singleton.1 hu]; rfl
      have hk9 : k ≤ 1000000000 := by omega
      have H2 : k + 1 ≤ maxLen := by show k + 1 ≤ 9223372036854775807; omega
      have H3 : (k + 1) * 4 ≤ 140737488355328 := by omega
      have HAP : Hid (u32s (pre ++ [lo]) = u32s pre ++ [.int .u32 (lo : Int)]) := Lib.hid (by rw [u32s_append]; rfl)
      have hgk : 0 < gk := by omega
      have hkg2 : k + 1 + (gk - 1) = M + 1 := by omega
      clear ht hcx hlo hhi hM hkM
      have hcase : (k < n1) ∨ (¬ k < n1 ∧ k < n2) ∨ (¬ k < n1 ∧ ¬ k < n2 ∧ 0 < c) := by omega
      clear hgo
      rcases hst with ⟨rfl, rfl, g, rfl⟩ | ⟨b', cap, cs, rfl, hrow, hb, g, rfl⟩
      · obtain rfl : k = 0 := by rw [← hpl]; rfl
        rcases hcase with h | ⟨h, h'⟩ | ⟨h, h', h''⟩
        all_goals
          go_wp2_with (with_reducible refine G.any_mark _ ?_; (try generalize Array.size (World.heap (G.w _)) = bk); (try dsimp only [List.set_cons_zero, List.set_cons_succ]); (try clear g); intro g)
          refine (CLa.out _ (G.sl g (by simp) h1)).mono ?_
          rintro e w1 ⟨rfl, rfl⟩
          go_wp2_with (with_reducible refine G.any_mark _ ?_; (try generalize Array.size (World.heap (G.w _)) = bk); (try dsimp only [List.set_cons_zero, List.set_cons_succ]); (try clear g); intro g)
          refine (CLb.out _ (G.sl g (by simp) h2)).mono ?_
          rintro e w1 ⟨rfl, rfl⟩
          go_wp2_with (first | (with_reducible refine G.any_mark _ ?_; (try generalize Array.size (World.heap (G.w _)) = bk); (try dsimp only [List.set_cons_zero, List.set_cons_succ]); (try clear g); intro g) | (at_builtin; refine wpList_append_lit0 rfl _ _ 24 rfl 30 i0 _ 1 4 Try.underlying24 hi hzz0 hzz1 hzz2 rfl (by decide) g rfl 1 rfl rfl H1 (by decide) (by decide) (by decide) ?_; clear g; intro b' cap cs g hb hrow))
          go_roundg (gk - 1)
          case measure => omega
          case rel => exact ⟨0 + 1, hi', [] ++ [lo], hkg2, rfl, by go_num, HA2, .inr ⟨b', cap, cs, rfl, by rw [HAP.out]; exact hrow, hb, g, rfl⟩⟩
      · rcases hcase with h | ⟨h, h'⟩ | ⟨h, h', h''⟩
        all_goals
          go_wp2_with (with_reducible refine G.any_mark _ ?_; (try generalize Array.size (World.heap (G.w _)) = bk); (try dsimp only [List.set_cons_zero, List.set_cons_succ]); (try clear g); intro g)
          refine (CLa.out _ (G.sl g (by simp) h1)).mono ?_
          rintro e w1 ⟨rfl, rfl⟩
          go_wp2_with (with_reducible refine G.any_mark _ ?_; (try generalize Array.size (World.heap (G.w _)) = bk); (try dsimp only [List.set_cons_zero, List.set_cons_succ]); (try clear g); intro g)
          refine (CLb.out _ (G.sl g (by simp) h2)).mono ?_
          rintro e w1 ⟨rfl, rfl⟩
          go_wp2_with (first | (with_reducible refine G.any_mark _ ?_; (try generalize Array.size (World.heap (G.w _)) = bk); (try dsimp only [List.set_cons_zero, List.set_cons_succ]); (try clear g); intro g) | (at_builtin; refine wpList_append_lit rfl _ _ 24 rfl 30 i0 _ 1 4 Try.underlying24 hi hzz0 hzz1 hzz2 rfl (by decide) g hrow hb rfl 1 rfl rfl H1 (by decide) H2 H3 ?_; clear hb hrow g; intro b' cap cs g hb hrow))
          go_roundg (gk - 1)
          case measure => omega
          case rel => exact ⟨k + 1, hi', pre ++ [lo], hkg2, rfl, by go_num, HA2, .inr ⟨b', cap, cs, rfl, by rw [HAP.out]; exact hrow, hb, g, rfl⟩⟩
    · obtain rfl : c = 0 := by omega
      have hp := HA.out.stop (by rw [HN1.out]; omega) (by rw [HN2.out]; omega) (by rw [HN1.out, HN2.out]; omega)
      have h3 : ¬ k < n1 := by omega
      have h4 : ¬ k < n2 := by omega
      have hpl := HA.out.len
      have hk9 : k ≤ 1000000001 := by omega
      subst hp
      have HPL := Lib.hid hpl
      clear hgo hpl
      rcases hst with ⟨hnil, rfl, g, rfl⟩ | ⟨b', cap, cs, rfl, hrow, hb, g, rfl⟩
      · have HNL := Lib.hid hnil
        clear hnil
        go_wp2_with (with_reducible refine G.any_mark _ ?_; (try generalize Array.size (World.heap (G.w _)) = bk); (try dsimp only [List.set_cons_zero, List.set_cons_succ]); (try clear g); intro g)
        go_ret
        exact ⟨none, 0, (fun _ => none), by rw [HNL.out]; rfl, by rw [HNL.out]; exact Frag.Sl.nil _ _, g.none⟩
      · go_wp2_with (with_reducible refine G.any_mark _ ?_; (try generalize Array.size (World.heap (G.w _)) = bk); (try dsimp only [List.set_cons_zero, List.set_cons_succ]); (try clear g); intro g)
        go_ret
        exact ⟨_, cap, _, ret_slice HPL.out.symm, sl_row hrow HPL.out (by omega) (ok_limbs _), g.give (List.mem_cons_self ..)⟩
set_option maxHeartbeats 2000000 in
theorem rsub_any (A1 A2 : Option Addr) (c1 c2 : Nat) (l1 l2 : List Nat) (w : World) (h1 : SlW w A1 c1 l1) (h2 : SlW w A2 c2 l2) (hl1 : l1.length ≤ 1000000000) (hl2 : l2.length ≤ l1.length) (hle : val l2 ≤ val l1) :
    Calls Try.prog 75 #[.slice A1 l1.length c1, .slice A2 l2.length c2] w (RNat (val l1 - val l2) w) := by
  refine calls_b fun g => ?_
  obtain ⟨n1, hn1⟩ : ∃ n, l1.length = n := ⟨_, rfl⟩
  obtain ⟨n2, hn2⟩ : ∃ n, l2.length = n := ⟨_, rfl⟩
  have CL1 := Lib.hid (fun k (hk : k ≤ 1000000001) w h => rlimb_any A1 c1 l1 k w h (by omega))
  have CL2 := Lib.hid (fun k (hk : k ≤ 1000000001) w h => rlimb_any A2 c2 l2 k w h (by omega))
  rw [hn1] at CL1 hl1 hl2 ⊢
  rw [hn2] at CL2 hl2 ⊢
  have HN1 := Lib.hid hn1
  have HN2 := Lib.hid hn2
  have HLE := Lib.hid hle
  have o1 := h1.ok
  have o2 := h2.ok
  obtain ⟨i0, hi, hzz0, hzz1, hzz2⟩ := info_parts infoU32
  clear hn1 hn2 hle
  go_enter Try.func75, Try.ntmps75
  go_wp2_with (with_reducible refine G.any_mark _ ?_; (try generalize Array.size (World.heap (G.w _)) = bk); (try dsimp only [List.set_cons_zero, List.set_cons_succ]); (try clear g); intro g)
  go_loopg [5, 6, 7] n1 (fun gk s5 s6 s7 wr => ∃ (k c : Nat) (pre : List Nat), k + gk = n1 ∧ s6 = .int .u64 (c : Int) ∧ s7 = .int .i64 (k : Int) ∧ c ≤ 1 ∧ Hid (pre.length = k ∧ Ok pre ∧ val pre + val (l2.take k) = val (l1.take k) + 4294967296 ^ k * c) ∧ ((pre = [] ∧ s5 = .slice none 0 0 ∧ ∃ g : G w [] [] [heapOf w], wr = g.w) ∨ (∃ b cap cs, s5 = .slice (some ⟨b, 0, none⟩) k cap ∧ Row 30 1 k (u32s pre) cap cs ∧ w.heap.size ≤ b ∧ ∃ g : G w [] [(b, 30, cs)] [heapOf w], wr = g.w)))
  case atStart => exact ⟨0, 0, [], by omega, rfl, rfl, by omega, ⟨rfl, Ok.nil, by simp [val]⟩, .inl ⟨rfl, rfl, g, rfl⟩⟩
  case round =>
    clear g
    obtain ⟨k, c, pre, hkg, rfl, rfl, hc1, HA, hst⟩ := hrel
    by_cases hgo : k < n1
    · have HA2 := Lib.hid (sub_step o1 o2 hc1 HA.out.1 HA.out.2.2)
      have CLa := Lib.hid (CL1.out k (by omega))
      have CLb := Lib.hid (CL2.out k (by omega))
      have hx := o1.getD k
      have hy := o2.getD k
      have hpl := HA.out.1
      have hpo := HA.out.2.1
      generalize l1.getD k 0 = x at *
      generalize l2.getD k 0 = y at *
      obtain ⟨d, hd⟩ : ∃ d : Nat, ((x : Int) - (y : Int)) % 18446744073709551616 = (d : Int) := ⟨(((x : Int) - (y : Int)) % 18446744073709551616).toNat, by omega⟩
      obtain ⟨t, ht⟩ : ∃ t : Nat, ((d : Int) - (c : Int)) % 18446744073709551616 = (t : Int) := ⟨(((d : Int) - (c : Int)) % 18446744073709551616).toNat, by omega⟩
      have f3 : IntKind.u64.wrap ((x : Int) - (y : Int)) = (d : Int) := by rw [IntKind.wrap_u64]; exact hd
      have f4 : IntKind.u64.wrap ((d : Int) - (c : Int)) = (t : Int) := by rw [IntKind.wrap_u64]; exact ht
      obtain ⟨lo, hlo⟩ : ∃ lo, (x + 4294967296 - y - c) % 4294967296 = lo := ⟨_, rfl⟩
      obtain ⟨c', hc'⟩ : ∃ c', brw x y c = c' := ⟨_, rfl⟩
      have hb : (x < y + c ∧ c' = 1) ∨ (y + c ≤ x ∧ c' = 0) := by unfold brw at hc'; split at hc' <;> omega
      have f5 : IntKind.u32.wrap (t : Int) = (lo : Int) := by rw [IntKind.wrap_u32]; omega
      have f6 : (t : Int) / 9223372036854775808 = (c' : Int) := by omega
      have hc1' : c' ≤ 1 := by omega
      have hlo9 : lo < 4294967296 := by omega
      rw [hlo, hc'] at HA2
      have HA3 : Hid ((pre ++ [lo]).length = k + 1 ∧ Ok (pre ++ [lo]) ∧ val (pre ++ [lo]) + val (l2.take (k + 1)) = val (l1.take (k + 1)) + 4294967296 ^ (k + 1) * c') := Lib.hid ⟨by rw [List.length_append, hpl]; rfl, hpo.append (Ok.cons hlo9 Ok.nil), HA2.out⟩
      have H1 : ∀ u ∈ [Value.int .u32 (lo : Int)], u.oneCell' = true := by intro u hu; rw [List.mem_singleton.1 hu]; rfl
      have hk9 : k ≤ 1000000000 := by omega
      have H2 : k + 1 ≤ maxLen := by show k + 1 ≤ 9223372036854775807; omega
      have H3 : (k + 1) * 4 ≤ 140737488355328 := by omega
      have HAP : Hid (u32s (pre ++ [lo]) = u32s pre ++ [.int .u32 (lo : Int)]) := Lib.hid (by rw [u32s_append]; rfl)
      have hgk : 0 < gk := by omega
      have hkg2 : k + 1 + (gk - 1) = n1 := by omega
      clear hd ht hlo hc' hb HA2
      rcases hst with ⟨rfl, rfl, g, rfl⟩ | ⟨b', cap, cs, rfl, hrow, hb, g, rfl⟩
      · obtain rfl : k = 0 := by rw [← hpl]; rfl
        go_wp2_with (with_reducible refine G.any_mark _ ?_; (try generalize Array.size (World.heap (G.w _)) = bk); (try dsimp only [List.set_cons_zero, List.set_cons_succ]); (try clear g); intro g)
        refine (CLa.out _ (G.sl g (by simp) h1)).mono ?_
        rintro e w1 ⟨rfl, rfl⟩
        go_wp2_with (with_reducible refine G.any_mark _ ?_; (try generalize Array.size (World.heap (G.w _)) = bk); (try dsimp only [List.set_cons_zero, List.set_cons_succ]); (try clear g); intro g)
        refine (CLb.out _ (G.sl g (by simp) h2)).mono ?_
        rintro e w1 ⟨rfl, rfl⟩
        go_wp2_with (first | (with_reducible refine G.any_mark _ ?_; (try generalize Array.size (World.heap (G.w _)) = bk); (try dsimp only [List.set_cons_zero, List.set_cons_succ]); (try clear g); intro g) | (at_builtin; refine wpList_append_lit0 rfl _ _ 24 rfl 30 i0 _ 1 4 Try.underlying24 hi hzz0 hzz1 hzz2 rfl (by decide) g rfl 1 rfl rfl H1 (by decide) (by decide) (by decide) ?_; clear g; intro b' cap cs g hb hrow))
        go_roundg (gk - 1)
        case measure => omega
        case rel => exact ⟨0 + 1, c', [] ++ [lo], hkg2, rfl, by go_num, hc1', HA3, .inr ⟨b', cap, cs, rfl, by rw [HAP.out]; exact hrow, hb, g, rfl⟩⟩
      · go_wp2_with (with_reducible refine G.any_mark _ ?_; (try generalize Array.size (World.heap (G.w _)) = bk); (try dsimp only [List.set_cons_zero, List.set_cons_succ]); (try clear g); intro g)
        refine (CLa.out _ (G.sl g (by simp) h1)).mono ?_
        rintro e w1 ⟨rfl, rfl⟩
        go_wp2_with (with_reducible refine G.any_mark _ ?_; (try generalize Array.size (World.heap (G.w _)) = bk); (try dsimp only [List.set_cons_zero, List.set_cons_succ]); (try clear g); intro g)
        refine (CLb.out _ (G.sl g (by simp) h2)).mono ?_
        rintro e w1 ⟨rfl, rfl⟩
        go_wp2_with (first | (with_reducible refine G.any_mark _ ?_; (try generalize Array.size (World.heap (G.w _)) = bk); (try dsimp only [List.set_cons_zero, List.set_cons_succ]); (try clear g); intro g) | (at_builtin; refine wpList_append_lit rfl _ _ 24 rfl 30 i0 _ 1 4 Try.underlying24 hi hzz0 hzz1 hzz2 rfl (by decide) g hrow hb rfl 1 rfl rfl H1 (by decide) H2 H3 ?_; clear hb hrow g; intro b' cap cs g hb hrow))
        go_roundg (gk - 1)
        case measure => omega
        case rel => exact ⟨k + 1, c', pre ++ [lo], hkg2, rfl, by go_num, hc1', HA3, .inr ⟨b', cap, cs, rfl, by rw [HAP.out]; exact hrow, hb, g, rfl⟩⟩
    · obtain rfl : k = n1 := by omega
      obtain ⟨hpl, hpo, heq⟩ := HA.out
      have hend := (sub_end hpo hpl (by rw [HN1.out]; exact Nat.le_refl _) (by rw [HN2.out]; exact hl2) HLE.out heq).1
      have HPL := Lib.hid hpl
      have HEND := Lib.hid hend
      have CT1 := Lib.hid (fun A cap w h => rtrim_any A cap pre w h)
      rw [hpl] at CT1
      clear hpl heq hend
      rcases hst with ⟨hnil, rfl, g, rfl⟩ | ⟨b', cap, cs, rfl, hrow, hb, g, rfl⟩
      · subst hnil
        have hk0 : k = 0 := by rw [← HPL.out]; rfl
        subst hk0
        have hsl : SlW g.w none 0 [] := Frag.Sl.nil _ _
        go_wp2_with (with_reducible refine G.any_mark _ ?_; (try generalize Array.size (World.heap (G.w _)) = bk); (try dsimp only [List.set_cons_zero, List.set_cons_succ]); (try clear g); intro g)
        refine (CT1.out _ _ _ hsl).mono ?_
        rintro e w1 ⟨rfl, hb⟩
        obtain ⟨g1, rfl⟩ := G.call_ex _ hb
        clear hb
        (try clear g)
        revert g1
        intro g
        go_wp2_with (with_reducible refine G.any_mark _ ?_; (try generalize Array.size (World.heap (G.w _)) = bk); (try dsimp only [List.set_cons_zero, List.set_cons_succ]); (try clear g); intro g)
        go_ret
        refine ⟨none, 0, (fun _ => none), ret_slice (by rw [HEND.out]), ?_, g.none⟩
        rw [← HEND.out, show val [] = 0 from rfl, limbs_zero]
        exact Frag.Sl.nil _ _
      · have hsl : SlW g.w (some ⟨b', 0, none⟩) cap pre := (sl_row hrow HPL.out (by omega) hpo).at (blkF_sub g.blk0)
        have hsr := Lib.hid (sl_trim (sl_row (b := b') hrow HPL.out (by omega) hpo))
        go_wp2_with (with_reducible refine G.any_mark _ ?_; (try generalize Array.size (World.heap (G.w _)) = bk); (try dsimp only [List.set_cons_zero, List.set_cons_succ]); (try clear g); intro g)
        refine (CT1.out _ _ _ hsl).mono ?_
        rintro e w1 ⟨rfl, hb⟩
        obtain ⟨g1, rfl⟩ := G.call_ex _ hb
        clear hb
        (try clear g)
        revert g1
        intro g
        clear hsl
        go_wp2_with (with_reducible refine G.any_mark _ ?_; (try generalize Array.size (World.heap (G.w _)) = bk); (try dsimp only [List.set_cons_zero, List.set_cons_succ]); (try clear g); intro g)
        go_ret
        refine ⟨_, cap, _, ret_slice (by rw [HEND.out]), ?_, g.give (List.mem_cons_self ..)⟩
        rw [← HEND.out]
        exact hsr.out
end Go.Proofs.Ytfifcpgjcgoinaa
namespace Go.Proofs.Ytfifcpgjcgoinaa
open Go.RowKit GW NL
theorem bl_at (s : ByteArray) (k : Nat) (h : k < s.size) : (s[k]'h).toNat = (bl s).getD k 0 := by
  have h' : k < s.data.toList.length := by simpa using h
  unfold bl
  rw [List.getD_eq_getElem?_getD, List.getElem?_map, List.getElem?_eq_getElem h']
  simp
  rfl
theorem rOf_neg (a : Int) (h0 : a < 0) (h1 : -9223372036854775808 ≤ a) (w : World) : Calls Try.prog 20 #[.int .i64 a] w (RNE (0, 2) w) := by
  refine calls_b fun g => ?_
  go_enter Try.func20, Try.ntmps20
  go_wp2_with (with_reducible refine G.any_mark _ ?_; (try generalize Array.size (World.heap (G.w _)) = bk); (try dsimp only [List.set_cons_zero, List.set_cons_succ]); (try clear g); intro g)
  go_ret2
  exact rne_err g 2
theorem rOf_pos (n : Nat) (h1 : n < 9223372036854775808) (w : World) : Calls Try.prog 20 #[.int .i64 n] w (RNE (n, 0) w) := by
  refine calls_b fun g => ?_
  obtain ⟨hv, hk⟩ := two_limbs n h1
  have HV := Lib.hid hv
  have e1 : (((n % 4294967296 : Nat)) : Int) = (n : Int) % 4294967296 := by omega
  have e2 : (((n / 4294967296 : Nat)) : Int) = (n : Int) / 4294967296 := by omega
  have E1 := Lib.hid e1
  have E2 := Lib.hid e2
  clear hv e1 e2
  go_enter Try.func20, Try.ntmps20
  go_wp2_with (with_reducible refine G.any_mark _ ?_; (try generalize Array.size (World.heap (G.w _)) = bk); (try dsimp only [List.set_cons_zero, List.set_cons_succ]); (try clear g); intro g)
  obtain ⟨g2, hg2⟩ := g.as (M' := [(bk, 30, u32s [n % 4294967296, n / 4294967296])]) (by simp only [u32s, List.map_cons, List.map_nil, E1.out, E2.out])
  rw [hg2]
  clear hg2 g
  revert g2
  intro g
  have hsl : SlW g.w (some ⟨bk, 0, none⟩) 2 [n % 4294967296, n / 4294967296] := (sl_blk (by simp) (by decide) hk).at (blkF_sub g.blk0)
  refine (rtrim_any _ _ [n % 4294967296, n / 4294967296] _ hsl).mono ?_
  rintro e w1 ⟨rfl, hb⟩
  obtain ⟨g1, rfl⟩ := G.call_ex _ hb
  clear hb hsl g
  revert g1
  intro g
  rw [HV.out]
  have hfin : (blkF bk (.cells (u32s [n % 4294967296, n / 4294967296]).toArray 30 (0, 0))).Sl (some ⟨bk, 0, none⟩) 2 (limbs n) := by
    have := sl_trim (sl_blk (b := bk) (T := 30) (fr := (0, 0)) (c := 2) (by simp) (by decide) hk)
    rwa [HV.out] at this
  go_wp2_with (with_reducible refine G.any_mark _ ?_; (try generalize Array.size (World.heap (G.w _)) = bk); (try dsimp only [List.set_cons_zero, List.set_cons_succ]); (try clear g); intro g)
  go_ret2
  exact ⟨_, 2, _, rfl, hfin, g.give (List.mem_cons_self ..)⟩
theorem rParse_long (s : ByteArray) (w : World) (hn : 2467 < s.size) (hn9 : s.size ≤ 1000000000) :
    Calls Try.prog 24 #[.string s] w (RNF 0 4 2467 w) := by
  refine calls_b fun g => ?_
  obtain ⟨n, hsz⟩ : ∃ n, s.size = n := ⟨_, rfl⟩
  rw [hsz] at hn hn9
  have h1i : (2467 : Int) < (n : Int) := by omega
  clear hn
  go_enter Try.func24, Try.ntmps24
  go_wp2_with (with_reducible refine G.any_mark _ ?_; (try generalize Array.size (World.heap (G.w _)) = bk); (try dsimp only [List.set_cons_zero, List.set_cons_succ]); (try clear g); intro g)
  ((try simp only [G.drew_eq, G.drewN_eq]); (refine G.any_mark _ ?_; (try generalize Array.size (World.heap (G.w _)) = bk); (try dsimp only [List.set_cons_zero, List.set_cons_succ]); (try clear g); intro g))
  refine bodyPost_ret (v := .tuple #[.slice none 0 0, .agg #[.int .i64 4, .int .i64 2467]]) (by simp [results, Try.f24, go_sem]) rfl ?_
  exact rnf_err g _ _
set_option maxRecDepth 20000 in
theorem rParse_bad (s : ByteArray) (w : World) (hn : s.size ≤ 2467) (i : Nat) (hi : i < s.size) (hb : NoDig ((bl s).getD i 0)) (hd : ∀ j, j < i → ¬ NoDig ((bl s).getD j 0)) :
    Calls Try.prog 24 #[.string s] w (RNF 0 11 i w) := by
  refine calls_b fun g => ?_
  obtain ⟨l, hl⟩ : ∃ l, bl s = l := ⟨_, rfl⟩
  have hll := bl_len s
  have hlt := bl_lt s
  rw [hl] at hll hlt hd hb
  obtain ⟨n, hsz⟩ : ∃ n, s.size = n := ⟨_, rfl⟩
  rw [hsz] at hn hi hll
  have h1i : ¬ ((2467 : Int) < (n : Int)) := by omega
  go_enter Try.func24, Try.ntmps24
  go_wp2_with (with_reducible refine G.any_mark _ ?_; (try generalize Array.size (World.heap (G.w _)) = bk); (try dsimp only [List.set_cons_zero, List.set_cons_succ]); (try clear g); intro g)
  obtain ⟨rc, rfl⟩ : ∃ rc : Nat, rc = bk := ⟨_, rfl⟩
  go_loopg [4] n (fun gk s4 wr => ∃ k : Nat, k + gk = n ∧ s4 = .int .i64 (k : Int) ∧ Hid (∀ j, j < k → ¬ NoDig (l.getD j 0)) ∧ ∃ g : G w [] [(rc, 40, [.int .i64 0, .int .i64 0])] [heapOf w], wr = g.w)
  case atStart => exact ⟨0, by omega, rfl, fun j hj => by omega, g, rfl⟩
  case round =>
    clear g
    obtain ⟨ko, rfl⟩ : ∃ ko : Nat, ko = gk := ⟨_, rfl⟩
    obtain ⟨k, hkg, rfl, HA, g, rfl⟩ := hrel
    by_cases hk : k < n
    · have hki : (k : Int) < (n : Int) := by omega
      have hk0 : (0 : Int) ≤ (k : Int) := by omega
      have hks : k < s.size := by omega
      have hxl : l.getD k 0 < 256 := by
        rw [List.getD_eq_getElem?_getD, List.getElem?_eq_getElem (by omega)]
        exact hlt _ (List.getElem_mem _)
      obtain ⟨x, hx⟩ : ∃ x, l.getD k 0 = x := ⟨_, rfl⟩
      have hsk : ∀ h : k < s.size, ((s[k]'h).toNat : Int) = (x : Int) := fun h => by rw [bl_at s k h, hl, hx]
      rw [hx] at hxl
      have HX := Lib.hid hx
      clear hx
      by_cases hnd : NoDig x
      · obtain rfl : k = i := by
          rcases Nat.lt_trichotomy k i with h | h | h
          · exact absurd (by rw [HX.out]; exact hnd) (hd k h)
          · exact h
          · exact absurd hb (HA.out i h)
        have hc : x < 48 ∨ (¬ x < 48 ∧ 57 < x) := by unfold NoDig at hnd; omega
        clear hnd hb hd
        rcases hc with h | ⟨h, h'⟩
        · have hd1 : (x : Int) < 48 := by omega
          have hd3 : decide ((x : Int) < 48) = true := decide_eq_true hd1
          clear h
          go_wp2_with (with_reducible refine G.any_mark _ ?_; (try generalize Array.size (World.heap (G.w _)) = bk); (try dsimp only [List.set_cons_zero, List.set_cons_succ]); (try clear g); intro g)
          ((try simp only [G.drew_eq, G.drewN_eq]); (refine G.any_mark _ ?_; (try generalize Array.size (World.heap (G.w _)) = bk); (try dsimp only [List.set_cons_zero, List.set_cons_succ]); (try clear g); intro g))
          refine bodyPost_ret (v := .tuple #[.slice none 0 0, .agg #[.int .i64 11, .int .i64 (k : Int)]]) (by simp [results, Try.f24, go_sem]) rfl ?_
          exact rnf_err g _ _
        · have hd1 : ¬ ((x : Int) < 48) := by omega
          have hd2 : (57 : Int) < (x : Int) := by omega
          have hd3 : decide ((x : Int) < 48) = false := decide_eq_false hd1
          clear h h'
          go_wp2_with (with_reducible refine G.any_mark _ ?_; (try generalize Array.size (World.heap (G.w _)) = bk); (try dsimp only [List.set_cons_zero, List.set_cons_succ]); (try clear g); intro g)
          ((try simp only [G.drew_eq, G.drewN_eq]); (refine G.any_mark _ ?_; (try generalize Array.size (World.heap (G.w _)) = bk); (try dsimp only [List.set_cons_zero, List.set_cons_succ]); (try clear g); intro g))
          refine bodyPost_ret (v := .tuple #[.slice none 0 0, .agg #[.int .i64 11, .int .i64 (k : Int)]]) (by simp [results, Try.f24, go_sem]) rfl ?_
          exact rnf_err g _ _
      · clear hb hd
        have hd1 : ¬ ((x : Int) < 48) := by unfold NoDig at hnd; omega
        have hd2 : ¬ ((57 : Int) < (x : Int)) := by unfold NoDig at hnd; omega
        have hd3 : decide ((x : Int) < 48) = false := decide_eq_false hd1
        have HND := Lib.hid hnd
        clear hnd
        go_wp2_with (with_reducible refine G.any_mark _ ?_; (try generalize Array.size (World.heap (G.w _)) = bk); (try dsimp only [List.set_cons_zero, List.set_cons_succ]); (try clear g); intro g)
        go_roundg (ko - 1)
        case measure => omega
        case rel => exact ⟨k + 1, by omega, by go_num, fun j hj => by
          rcases Nat.lt_or_ge j k with h | h
          · exact HA.out j h
          · obtain rfl : j = k := by omega
            rw [HX.out]; exact HND.out, g, rfl⟩
    · have hkn : k = n := by omega
      have hki : ¬ ((k : Int) < (n : Int)) := by omega
      exact absurd hb (HA.out i (by omega))
set_option maxRecDepth 20000 in
theorem rParse_form (s : ByteArray) (w : World) (hn : s.size ≤ 2467) (hd : ∀ j, j < s.size → ¬ NoDig ((bl s).getD j 0)) (hz : s.size = 0 ∨ (1 < s.size ∧ (bl s).getD 0 0 = 48)) :
    Calls Try.prog 24 #[.string s] w (RNF 0 11 0 w) := by
  refine calls_b fun g => ?_
  obtain ⟨l, hl⟩ : ∃ l, bl s = l := ⟨_, rfl⟩
  have hll := bl_len s
  have hlt := bl_lt s
  rw [hl] at hll hlt hd hz
  obtain ⟨n, hsz⟩ : ∃ n, s.size = n := ⟨_, rfl⟩
  rw [hsz] at hn hll hd hz
  have h1i : ¬ ((2467 : Int) < (n : Int)) := by omega
  go_enter Try.func24, Try.ntmps24
  go_wp2_with (with_reducible refine G.any_mark _ ?_; (try generalize Array.size (World.heap (G.w _)) = bk); (try dsimp only [List.set_cons_zero, List.set_cons_succ]); (try clear g); intro g)
  obtain ⟨rc, rfl⟩ : ∃ rc : Nat, rc = bk := ⟨_, rfl⟩
  go_loopg [4] n (fun gk s4 wr => ∃ k : Nat, k + gk = n ∧ s4 = .int .i64 (k : Int) ∧ Hid (∀ j, j < k → ¬ NoDig (l.getD j 0)) ∧ ∃ g : G w [] [(rc, 40, [.int .i64 0, .int .i64 0])] [heapOf w], wr = g.w)
  case atStart => exact ⟨0, by omega, rfl, fun j hj => by omega, g, rfl⟩
  case round =>
    clear g
    obtain ⟨ko, rfl⟩ : ∃ ko : Nat, ko = gk := ⟨_, rfl⟩
    obtain ⟨k, hkg, rfl, HA, g, rfl⟩ := hrel
    by_cases hk : k < n
    · have hki : (k : Int) < (n : Int) := by omega
      have hk0 : (0 : Int) ≤ (k : Int) := by omega
      have hks : k < s.size := by omega
      have hxl : l.getD k 0 < 256 := by
        rw [List.getD_eq_getElem?_getD, List.getElem?_eq_getElem (by omega)]
        exact hlt _ (List.getElem_mem _)
      obtain ⟨x, hx⟩ : ∃ x, l.getD k 0 = x := ⟨_, rfl⟩
      have hsk : ∀ h : k < s.size, ((s[k]'h).toNat : Int) = (x : Int) := fun h => by rw [bl_at s k h, hl, hx]
      rw [hx] at hxl
      have HX := Lib.hid hx
      clear hx
      have hnd : ¬ NoDig x := by rw [← HX.out]; exact hd k hk
      · clear hd hz
        have hd1 : ¬ ((x : Int) < 48) := by unfold NoDig at hnd; omega
        have hd2 : ¬ ((57 : Int) < (x : Int)) := by unfold NoDig at hnd; omega
        have hd3 : decide ((x : Int) < 48) = false := decide_eq_false hd1
        have HND := Lib.hid hnd
        clear hnd
        go_wp2_with (with_reducible refine G.any_mark _ ?_; (try generalize Array.size (World.heap (G.w _)) = bk); (try dsimp only [List.set_cons_zero, List.set_cons_succ]); (try clear g); intro g)
        go_roundg (ko - 1)
        case measure => omega
        case rel => exact ⟨k + 1, by omega, by go_num, fun j hj => by
          rcases Nat.lt_or_ge j k with h | h
          · exact HA.out j h
          · obtain rfl : j = k := by omega
            rw [HX.out]; exact HND.out, g, rfl⟩
    · have hkn : k = n := by omega
      have hki : ¬ ((k : Int) < (n : Int)) := by omega
      clear hd HA
      rcases hz with h0 | ⟨h1n, hz'⟩
      · have hn0i : ((n : Int) == 0) = true := by rw [beq_iff_eq]; omega
        have hn0 : (n : Int) = 0 := by omega
        clear h0
        go_wp2_with (with_reducible refine G.any_mark _ ?_; (try generalize Array.size (World.heap (G.w _)) = bk); (try dsimp only [List.set_cons_zero, List.set_cons_succ]); (try clear g); intro g)
        ((try simp only [G.drew_eq, G.drewN_eq]); (refine G.any_mark _ ?_; (try generalize Array.size (World.heap (G.w _)) = bk); (try dsimp only [List.set_cons_zero, List.set_cons_succ]); (try clear g); intro g))
        refine bodyPost_ret (v := .tuple #[.slice none 0 0, .agg #[.int .i64 11, .int .i64 0]]) (by simp [results, Try.f24, go_sem]) rfl ?_
        exact rnf_err g _ _
      · have h1ni : (1 : Int) < (n : Int) := by omega
        have hn0i : ((n : Int) == 0) = false := by rw [beq_eq_false_iff_ne]; omega
        have hs0 : ∀ h : 0 < s.size, (((s[0]'h).toNat : Int) == 48) = true := fun h => by
          have := bl_first s h
          rw [hl] at this
          rw [beq_iff_eq]
          omega
        clear hl hz'
        go_wp2_with (with_reducible refine G.any_mark _ ?_; (try generalize Array.size (World.heap (G.w _)) = bk); (try dsimp only [List.set_cons_zero, List.set_cons_succ]); (try clear g); intro g)
        ((try simp only [G.drew_eq, G.drewN_eq]); (refine G.any_mark _ ?_; (try generalize Array.size (World.heap (G.w _)) = bk); (try dsimp only [List.set_cons_zero, List.set_cons_succ]); (try clear g); intro g))
        refine bodyPost_ret (v := .tuple #[.slice none 0 0, .agg #[.int .i64 11, .int .i64 0]]) (by simp [results, Try.f24, go_sem]) rfl ?_
        exact rnf_err g _ _
set_option maxRecDepth 20000 in
set_option maxHeartbeats 8000000 in
theorem rParse_digits (s : ByteArray) (w : World) (hn : s.size ≤ 2467) (hn0 : s.size ≠ 0) (hd : ∀ j, j < s.size → ¬ NoDig ((bl s).getD j 0)) (hz : ¬ (1 < s.size ∧ (bl s).getD 0 0 = 48)) :
    Calls Try.prog 24 #[.string s] w (fun e w' => (dv (bl s) s.size < 2 ^ 8192 → RNF (dv (bl s) s.size) 0 0 w e w') ∧ (¬ dv (bl s) s.size < 2 ^ 8192 → RNF 0 5 0 w e w')) := by
  refine calls_b fun g => ?_
  obtain ⟨l, hl⟩ : ∃ l, bl s = l := ⟨_, rfl⟩
  have hll := bl_len s
  have hlt := bl_lt s
  rw [hl] at hll hlt hd hz
  rw [hl]
  obtain ⟨n, hsz⟩ : ∃ n, s.size = n := ⟨_, rfl⟩
  rw [hsz] at hn hn0 hll hd hz ⊢
  have h1i : ¬ ((2467 : Int) < (n : Int)) := by omega
  go_enter Try.func24, Try.ntmps24
  go_wp2_with (with_reducible refine G.any_mark _ ?_; (try generalize Array.size (World.heap (G.w _)) = bk); (try dsimp only [List.set_cons_zero, List.set_cons_succ]); (try clear g); intro g)
  obtain ⟨rc, rfl⟩ : ∃ rc : Nat, rc = bk := ⟨_, rfl⟩
  go_loopg [4] n (fun gk s4 wr => ∃ k : Nat, k + gk = n ∧ s4 = .int .i64 (k : Int) ∧ Hid (∀ j, j < k → ¬ NoDig (l.getD j 0)) ∧ ∃ g : G w [] [(rc, 40, [.int .i64 0, .int .i64 0])] [heapOf w], wr = g.w)
  case atStart => exact ⟨0, by omega, rfl, fun j hj => by omega, g, rfl⟩
  case round =>
    clear g
    obtain ⟨ko, rfl⟩ : ∃ ko : Nat, ko = gk := ⟨_, rfl⟩
    obtain ⟨k, hkg, rfl, HA, g, rfl⟩ := hrel
    by_cases hk : k < n
    · have hki : (k : Int) < (n : Int) := by omega
      have hk0 : (0 : Int) ≤ (k : Int) := by omega
      have hks : k < s.size := by omega
      have hxl : l.getD k 0 < 256 := by
        rw [List.getD_eq_getElem?_getD, List.getElem?_eq_getElem (by omega)]
        exact hlt _ (List.getElem_mem _)
      obtain ⟨x, hx⟩ : ∃ x, l.getD k 0 = x := ⟨_, rfl⟩
      have hsk : ∀ h : k < s.size, ((s[k]'h).toNat : Int) = (x : Int) := fun h => by rw [bl_at s k h, hl, hx]
      rw [hx] at hxl
      have HX := Lib.hid hx
      clear hx
      have hnd : ¬ NoDig x := by rw [← HX.out]; exact hd k hk
      · clear hd hz
        have hd1 : ¬ ((x : Int) < 48) := by unfold NoDig at hnd; omega
        have hd2 : ¬ ((57 : Int) < (x : Int)) := by unfold NoDig at hnd; omega
        have hd3 : decide ((x : Int) < 48) = false := decide_eq_false hd1
        have HND := Lib.hid hnd
        clear hnd
        go_wp2_with (with_reducible refine G.any_mark _ ?_; (try generalize Array.size (World.heap (G.w _)) = bk); (try dsimp only [List.set_cons_zero, List.set_cons_succ]); (try clear g); intro g)
        go_roundg (ko - 1)
        case measure => omega
        case rel => exact ⟨k + 1, by omega, by go_num, fun j hj => by
          rcases Nat.lt_or_ge j k with h | h
          · exact HA.out j h
          · obtain rfl : j = k := by omega
            rw [HX.out]; exact HND.out, g, rfl⟩
    · have hkn : k = n := by omega
      have hki : ¬ ((k : Int) < (n : Int)) := by omega
      clear HA
      obtain ⟨i0, hi, hzz0, hzz1, hzz2⟩ := info_parts infoU32
      have hn0i : ((n : Int) == 0) = false := by rw [beq_eq_false_iff_ne]; omega
      clear hkn hki hkg
      by_cases h1n : 1 < n
      · have h1ni : (1 : Int) < (n : Int) := by omega
        have hz' : l.getD 0 0 ≠ 48 := fun e => hz ⟨h1n, e⟩
        have hs0 : ∀ h : 0 < s.size, (((s[0]'h).toNat : Int) == 48) = false := fun h => by
          have := bl_first s h
          rw [hl] at this
          rw [beq_eq_false_iff_ne]
          omega
        clear hz
        go_wp2_with (with_reducible refine G.any_mark _ ?_; (try generalize Array.size (World.heap (G.w _)) = bk); (try dsimp only [List.set_cons_zero, List.set_cons_succ]); (try clear g); intro g)
        go_loopg [5, 6] n (fun gk s5 s6 wr => ∃ k : Nat, k + gk = n ∧ s6 = .int .i64 (k : Int) ∧ Hid (dv l k < 10 ^ k) ∧ ((Hid (dv l k = 0) ∧ s5 = .slice none 0 0 ∧ ∃ g : G w [] [(rc, 40, [.int .i64 0, .int .i64 0])] [heapOf w], wr = g.w) ∨ (∃ N b cap cs, Hid (dv l k = N ∧ N ≠ 0) ∧ s5 = .slice (some ⟨b, 0, none⟩) (limbs N).length cap ∧ Row 30 1 (limbs N).length (u32s (limbs N)) cap cs ∧ w.heap.size ≤ b ∧ ∃ g : G w [] [(b, 30, cs), (rc, 40, [.int .i64 0, .int .i64 0])] [heapOf w], wr = g.w)))
        case atStart => exact ⟨0, by omega, rfl, Lib.hid (by rw [dv_zero]; decide), .inl ⟨dv_zero l, rfl, g, rfl⟩⟩
        case round =>
          clear g
          obtain ⟨kq, rfl⟩ : ∃ kq : Nat, kq = gk := ⟨_, rfl⟩
          obtain ⟨k, hkg, rfl, HLT, hcase⟩ := hrel
          by_cases hk : k < n
          · have hki : (k : Int) < (n : Int) := by omega
            have hk0 : (0 : Int) ≤ (k : Int) := by omega
            have hks : k < s.size := by omega
            have hxd := hd k hk
            obtain ⟨x, hx⟩ : ∃ x, l.getD k 0 = x := ⟨_, rfl⟩
            have hsk : ∀ h : k < s.size, ((s[k]'h).toNat : Int) = (x : Int) := fun h => by rw [bl_at s k h, hl, hx]
            rw [hx] at hxd
            have hx1 : 48 ≤ x ∧ x ≤ 57 := by unfold NoDig at hxd; omega
            obtain ⟨d, hdd⟩ : ∃ d, x - 48 = d := ⟨_, rfl⟩
            have hd10 : d < 10 := by omega
            have hsub : IntKind.u8.wrap ((x : Int) - 48) = (d : Int) := by rw [IntKind.wrap_u8]; omega
            have hsub2 : (x : Int) - 48 = (d : Int) := by omega
            have hwd : IntKind.u64.wrap (d : Int) = (d : Int) := by rw [IntKind.wrap_u64]; omega
            have hwd8 : IntKind.u8.wrap (d : Int) = (d : Int) := by rw [IntKind.wrap_u8]; omega
            have hwd32 : IntKind.u32.wrap (d : Int) = (d : Int) := by rw [IntKind.wrap_u32]; omega
            have HS : Hid (dv l (k + 1) = 10 * dv l k + d) := Lib.hid (by rw [dv_succ (by omega), hx, hdd])
            have HL2 : Hid (dv l (k + 1) < 10 ^ (k + 1)) := Lib.hid (by rw [HS.out, Nat.pow_succ]; have := HLT.out; omega)
            have hkn : k + 1 ≤ 2467 := by omega
            clear hxd hx1 hdd hd hx
            rcases hcase with ⟨HZ, rfl, g, rfl⟩ | ⟨N, b, cap, cs, HN, rfl, hrow, hb, g, rfl⟩
            · go_wp2_with (with_reducible refine G.any_mark _ ?_; (try generalize Array.size (World.heap (G.w _)) = bk); (try dsimp only [List.set_cons_zero, List.set_cons_succ]); (try clear g); intro g)
              go_loopg [7, 8] 0 (fun gk s7 s8 wr => s7 = .int .u64 (d : Int) ∧ s8 = .int .i64 0 ∧ ∃ g : G w [] [(rc, 40, [.int .i64 0, .int .i64 0])] [heapOf w], wr = g.w)
              case atStart => exact ⟨rfl, rfl, g, rfl⟩
              case round =>
                clear g
                obtain ⟨rfl, rfl, g, rfl⟩ := hrel
                by_cases hd0 : d = 0
                · subst hd0
                  have HZ2 : Hid (dv l (k + 1) = 0) := Lib.hid (by rw [HS.out, HZ.out])
                  go_wp2_with (with_reducible refine G.any_mark _ ?_; (try generalize Array.size (World.heap (G.w _)) = bk); (try dsimp only [List.set_cons_zero, List.set_cons_succ]); (try clear g); intro g)
                  go_roundg (kq - 1)
                  case measure => omega
                  case rel => exact ⟨k + 1, by omega, by go_num, HL2, .inl ⟨HZ2, rfl, g, rfl⟩⟩
                · have hdi : (0 : Int) < (d : Int) := by omega
                  have HN2 : Hid (dv l (k + 1) = d ∧ d ≠ 0) := Lib.hid ⟨by rw [HS.out, HZ.out]; omega, hd0⟩
                  have ed : limbs d = [d] := limbs_one hd0 (by omega)
                  have HRW : Hid ((limbs d).length = 1 ∧ u32s (limbs d) = [.int .u32 (d : Int)]) := Lib.hid ⟨by rw [ed]; rfl, by rw [ed]; rfl⟩
                  have H1 : ∀ u ∈ [Value.int .u32 (d : Int)], u.oneCell' = true := by intro u hu; rw [List.mem_singleton.1 hu]; rfl
                  clear ed
                  go_wp2_with (first | (with_reducible refine G.any_mark _ ?_; (try generalize Array.size (World.heap (G.w _)) = bk); (try dsimp only [List.set_cons_zero, List.set_cons_succ]); (try clear g); intro g) | (at_builtin; refine wpList_append_lit0 rfl _ _ 24 rfl 30 i0 _ 1 4 Try.underlying24 hi hzz0 hzz1 hzz2 rfl (by decide) g rfl 1 rfl rfl H1 (by decide) (by decide) (by decide) ?_; clear g; intro b cap cs g hb hrow))
                  go_roundg (kq - 1)
                  case measure => omega
                  case rel => exact ⟨k + 1, by omega, by go_num, HL2, .inr ⟨d, b, cap, cs, HN2, by rw [HRW.out.1], by rw [HRW.out.1, HRW.out.2]; exact hrow, hb, g, rfl⟩⟩
            · have hm300 : (limbs N).length ≤ 300 := len_digits (k := k) (by rw [← HN.out.1]; exact HLT.out) (by omega)
              have hokN := ok_limbs N
              have TS : Hid (Ten (limbs N) d 0 d []) := Lib.hid (Ten.start (by omega))
              obtain ⟨m, hm⟩ : ∃ m, (limbs N).length = m := ⟨_, rfl⟩
              rw [hm] at hrow hm300 ⊢
              have HM := Lib.hid hm
              clear hm
              go_wp2_with (with_reducible refine G.any_mark _ ?_; (try generalize Array.size (World.heap (G.w _)) = bk); (try dsimp only [List.set_cons_zero, List.set_cons_succ]); (try clear g); intro g)
              go_loopg [7, 8] m (fun gk s7 s8 wr => ∃ (j c : Nat) (pre : List Nat) (cs' : List Value), j + gk = m ∧ s7 = .int .u64 (c : Int) ∧ s8 = .int .i64 (j : Int) ∧ Hid (Ten (limbs N) d j c pre) ∧ Row 30 1 m (u32s (pre ++ (limbs N).drop j)) cap cs' ∧ ∃ g : G w [] [(b, 30, cs'), (rc, 40, [.int .i64 0, .int .i64 0])] [heapOf w], wr = g.w)
              case atStart => exact ⟨0, d, [], cs, by omega, rfl, rfl, TS, hrow, g, rfl⟩
              case round =>
                clear g hrow TS
                obtain ⟨j, c, pre, cs', hjg, rfl, rfl, TJ, hrow, g, rfl⟩ := hrel
                have hc := TJ.out.lt
                by_cases hj : j < m
                · have hji : (j : Int) < (m : Int) := by omega
                  have hle := hrow.le
                  have hlenr : (pre ++ (limbs N).drop j).length = m := by rw [List.length_append, List.length_drop, TJ.out.len, HM.out]; omega
                  have hcell := hrow.get hlenr hj
                  rw [ten_get TJ.out.len] at hcell
                  have hy := hokN.getD j
                  have TJ2 := Lib.hid (TJ.out.step hokN)
                  have hset := ten_set (xs := limbs N) (x := ((limbs N).getD j 0 * 10 + 0 + c) % 4294967296) TJ.out.len (by rw [HM.out]; exact hj)
                  obtain ⟨t, ht⟩ : ∃ t, (limbs N).getD j 0 * 10 + 0 + c = t := ⟨_, rfl⟩
                  rw [ht] at TJ2 hset
                  generalize (limbs N).getD j 0 = y at *
                  obtain ⟨ty, hty⟩ : ∃ ty, 10 * y = ty := ⟨_, rfl⟩
                  have f1 : 10 * (y : Int) = (ty : Int) := by omega
                  have f2 : (c : Int) + (ty : Int) = (t : Int) := by omega
                  have f3 : IntKind.u64.wrap (ty : Int) = (ty : Int) := by rw [IntKind.wrap_u64]; omega
                  have f4 : IntKind.u64.wrap (t : Int) = (t : Int) := by rw [IntKind.wrap_u64]; omega
                  have f7 : IntKind.u64.wrap (y : Int) = (y : Int) := by rw [IntKind.wrap_u64]; omega
                  obtain ⟨lo, hlo⟩ : ∃ lo, t % 4294967296 = lo := ⟨_, rfl⟩
                  obtain ⟨hi', hhi⟩ : ∃ hi', t / 4294967296 = hi' := ⟨_, rfl⟩
                  have f5 : IntKind.u32.wrap (t : Int) = (lo : Int) := by rw [IntKind.wrap_u32]; omega
                  have f6 : (t : Int) / 4294967296 = (hi' : Int) := by omega
                  rw [hlo] at TJ2 hset
                  rw [hhi] at TJ2
                  have hrow2 := hrow.set (x := lo) hj
                  rw [hset] at hrow2
                  have HROW := Lib.hid hrow2
                  clear hset hrow hrow2 hlenr ht hty hlo hhi
                  go_wp2_with (with_reducible refine G.any_mark _ ?_; (try generalize Array.size (World.heap (G.w _)) = bk); (try dsimp only [List.set_cons_zero, List.set_cons_succ]); (try clear g); intro g)
                  go_roundg (gk - 1)
                  case measure => omega
                  case rel => exact ⟨j + 1, hi', pre ++ [lo], _, by omega, rfl, by go_num, TJ2, HROW.out, g, rfl⟩
                · obtain rfl : j = m := by omega
                  have hji : ¬ ((j : Int) < (j : Int)) := by omega
                  have TE := TJ.out
                  rw [← HM.out] at TE
                  rw [List.drop_of_length_le (by rw [HM.out]; exact Nat.le_refl _), List.append_nil] at hrow
                  by_cases hc0 : c = 0
                  · subst hc0
                    have hpre := TE.same
                    have HN2 : Hid (dv l (k + 1) = 10 * N + d ∧ 10 * N + d ≠ 0) := Lib.hid ⟨by rw [HS.out, HN.out.1], by have := HN.out.2; omega⟩
                    have HLN : Hid ((limbs (10 * N + d)).length = j) := Lib.hid (by rw [← hpre, TE.len, HM.out])
                    have HROW : Hid (Row 30 1 j (u32s (limbs (10 * N + d))) cap cs') := Lib.hid (by rw [← hpre]; exact hrow)
                    clear hpre hrow TE TJ
                    go_wp2_with (with_reducible refine G.any_mark _ ?_; (try generalize Array.size (World.heap (G.w _)) = bk); (try dsimp only [List.set_cons_zero, List.set_cons_succ]); (try clear g); intro g)
                    go_roundg (kq - 1)
                    case measure => omega
                    case rel => exact ⟨k + 1, by omega, by go_num, HL2, .inr ⟨10 * N + d, b, cap, cs', HN2, by rw [HLN.out], by rw [HLN.out]; exact HROW.out, hb, g, rfl⟩⟩
                  · have hci : (0 : Int) < (c : Int) := by omega
                    have hwc : IntKind.u32.wrap (c : Int) = (c : Int) := by rw [IntKind.wrap_u32]; omega
                    have hpre := TE.more hc0
                    have HN2 : Hid (dv l (k + 1) = 10 * N + d ∧ 10 * N + d ≠ 0) := Lib.hid ⟨by rw [HS.out, HN.out.1], by have := HN.out.2; omega⟩
                    have HLN : Hid ((limbs (10 * N + d)).length = j + 1) := Lib.hid (by rw [← hpre, List.length_append, TE.len, HM.out]; rfl)
                    have HAP : Hid (u32s (limbs (10 * N + d)) = u32s pre ++ [.int .u32 (c : Int)]) := Lib.hid (by rw [← hpre, u32s_append]; rfl)
                    have H1 : ∀ u ∈ [Value.int .u32 (c : Int)], u.oneCell' = true := by intro u hu; rw [List.mem_singleton.1 hu]; rfl
                    have H2 : j + 1 ≤ maxLen := by show j + 1 ≤ 9223372036854775807; omega
                    have H3 : (j + 1) * 4 ≤ 140737488355328 := by omega
                    clear hpre TE TJ
                    go_wp2_with (first | (with_reducible refine G.any_mark _ ?_; (try generalize Array.size (World.heap (G.w _)) = bk); (try dsimp only [List.set_cons_zero, List.set_cons_succ]); (try clear g); intro g) | (at_builtin; refine wpList_append_lit rfl _ _ 24 rfl 30 i0 _ 1 4 Try.underlying24 hi hzz0 hzz1 hzz2 rfl (by decide) g hrow hb rfl 1 rfl rfl H1 (by decide) H2 H3 ?_; clear hb hrow g; intro b cap cs g hb hrow))
                    go_roundg (kq - 1)
                    case measure => omega
                    case rel => exact ⟨k + 1, by omega, by go_num, HL2, .inr ⟨10 * N + d, b, cap, cs, HN2, by rw [HLN.out], by rw [HLN.out, HAP.out]; exact hrow, hb, g, rfl⟩⟩
          · obtain rfl : k = n := by omega
            have hki : ¬ ((k : Int) < (k : Int)) := by omega
            rcases hcase with ⟨HZ, rfl, g, rfl⟩ | ⟨N, b, cap, cs, HN, rfl, hrow, hb, g, rfl⟩
            · have CF := rfits_yes none 0 0
              rw [limbs_zero, List.length_nil] at CF
              replace CF := Lib.hid CF
              have HB0 : Hid (0 < 2 ^ 8192) := Lib.hid (Nat.two_pow_pos _)
              have hsn : SlW g.w none 0 [] := Frag.Sl.nil _ _
              go_wp2_with (with_reducible refine G.any_mark _ ?_; (try generalize Array.size (World.heap (G.w _)) = bk); (try dsimp only [List.set_cons_zero, List.set_cons_succ]); (try clear g); intro g)
              refine (CF.out _ hsn HB0.out).mono ?_
              rintro e w1 ⟨rfl, hb⟩
              obtain ⟨g1, rfl⟩ := G.call_ex _ hb
              clear hb
              (try clear g)
              revert g1
              intro g
              clear hsn
              go_wp2_with (with_reducible refine G.any_mark _ ?_; (try generalize Array.size (World.heap (G.w _)) = bk); (try dsimp only [List.set_cons_zero, List.set_cons_succ]); (try clear g); intro g)
              ((try simp only [G.drew_eq, G.drewN_eq]); (refine G.any_mark _ ?_; (try generalize Array.size (World.heap (G.w _)) = bk); (try dsimp only [List.set_cons_zero, List.set_cons_succ]); (try clear g); intro g))
              refine bodyPost_ret (v := .tuple #[.slice none 0 0, .agg #[.int .i64 0, .int .i64 0]]) (by simp [results, Try.f24, go_sem]) rfl ⟨fun _ => ?_, fun h => absurd (by rw [HZ.out]; exact HB0.out) h⟩
              rw [HZ.out]
              exact ⟨none, 0, (fun _ => none), by rw [limbs_zero]; rfl, by rw [limbs_zero]; exact Frag.Sl.nil _ _, g.none⟩
            · have hsl : SlW g.w (some ⟨b, 0, none⟩) cap (limbs N) := (sl_row hrow rfl (by have h300 : (limbs N).length ≤ 300 := len_digits (v := N) (k := k) (by rw [← HN.out.1]; exact HLT.out) (by omega); omega) (ok_limbs N)).at (blkF_sub g.blk0)
              have HM0 : Hid ((limbs N).length ≤ 140737488355328) := Lib.hid (by have h300 : (limbs N).length ≤ 300 := len_digits (v := N) (k := k) (by rw [← HN.out.1]; exact HLT.out) (by omega); omega)
              by_cases hN8 : N < 2 ^ 8192
              · have CF := Lib.hid (fun w h => rfits_yes (some ⟨b, 0, none⟩) cap N w h hN8)
                have H8 := Lib.hid hN8
                clear hN8
                go_wp2_with (with_reducible refine G.any_mark _ ?_; (try generalize Array.size (World.heap (G.w _)) = bk); (try dsimp only [List.set_cons_zero, List.set_cons_succ]); (try clear g); intro g)
                refine (CF.out _ hsl).mono ?_
                rintro e w1 ⟨rfl, hb⟩
                obtain ⟨g1, rfl⟩ := G.call_ex _ hb
                clear hb
                (try clear g)
                revert g1
                intro g
                clear hsl
                go_wp2_with (with_reducible refine G.any_mark _ ?_; (try generalize Array.size (World.heap (G.w _)) = bk); (try dsimp only [List.set_cons_zero, List.set_cons_succ]); (try clear g); intro g)
                ((try simp only [G.drew_eq, G.drewN_eq]); (refine G.any_mark _ ?_; (try generalize Array.size (World.heap (G.w _)) = bk); (try dsimp only [List.set_cons_zero, List.set_cons_succ]); (try clear g); intro g))
                have hlen := HM0.out
                refine bodyPost_ret (v := .tuple #[.slice (some ⟨b, 0, none⟩) (limbs N).length cap, .agg #[.int .i64 0, .int .i64 0]]) (by simp [results, Try.f24, go_sem]) rfl ⟨fun _ => ?_, fun h => absurd (by rw [HN.out.1]; exact H8.out) h⟩
                rw [HN.out.1]
                exact ⟨_, cap, _, rfl, sl_row hrow rfl hlen (ok_limbs N), g.give (List.mem_cons_self ..)⟩
              · have CF := Lib.hid (fun w h => rfits_no (some ⟨b, 0, none⟩) cap N w h hN8)
                have H8 := Lib.hid hN8
                clear hN8
                go_wp2_with (with_reducible refine G.any_mark _ ?_; (try generalize Array.size (World.heap (G.w _)) = bk); (try dsimp only [List.set_cons_zero, List.set_cons_succ]); (try clear g); intro g)
                refine (CF.out _ hsl).mono ?_
                rintro e w1 ⟨rfl, hb⟩
                obtain ⟨g1, rfl⟩ := G.call_ex _ hb
                clear hb
                (try clear g)
                revert g1
                intro g
                clear hsl
                go_wp2_with (with_reducible refine G.any_mark _ ?_; (try generalize Array.size (World.heap (G.w _)) = bk); (try dsimp only [List.set_cons_zero, List.set_cons_succ]); (try clear g); intro g)
                ((try simp only [G.drew_eq, G.drewN_eq]); (refine G.any_mark _ ?_; (try generalize Array.size (World.heap (G.w _)) = bk); (try dsimp only [List.set_cons_zero, List.set_cons_succ]); (try clear g); intro g))
                refine bodyPost_ret (v := .tuple #[.slice none 0 0, .agg #[.int .i64 5, .int .i64 0]]) (by simp [results, Try.f24, go_sem]) rfl ⟨fun h => absurd (by rw [HN.out.1] at h; exact h) H8.out, fun _ => ?_⟩
                exact ⟨none, 0, (fun _ => none), by rw [limbs_zero]; rfl, by rw [limbs_zero]; exact Frag.Sl.nil _ _, g.none⟩
      · have h1ni : ¬ ((1 : Int) < (n : Int)) := by omega
        clear hz
        go_wp2_with (with_reducible refine G.any_mark _ ?_; (try generalize Array.size (World.heap (G.w _)) = bk); (try dsimp only [List.set_cons_zero, List.set_cons_succ]); (try clear g); intro g)
        go_loopg [5, 6] n (fun gk s5 s6 wr => ∃ k : Nat, k + gk = n ∧ s6 = .int .i64 (k : Int) ∧ Hid (dv l k < 10 ^ k) ∧ ((Hid (dv l k = 0) ∧ s5 = .slice none 0 0 ∧ ∃ g : G w [] [(rc, 40, [.int .i64 0, .int .i64 0])] [heapOf w], wr = g.w) ∨ (∃ N b cap cs, Hid (dv l k = N ∧ N ≠ 0) ∧ s5 = .slice (some ⟨b, 0, none⟩) (limbs N).length cap ∧ Row 30 1 (limbs N).length (u32s (limbs N)) cap cs ∧ w.heap.size ≤ b ∧ ∃ g : G w [] [(b, 30, cs), (rc, 40, [.int .i64 0, .int .i64 0])] [heapOf w], wr = g.w)))
        case atStart => exact ⟨0, by omega, rfl, Lib.hid (by rw [dv_zero]; decide), .inl ⟨dv_zero l, rfl, g, rfl⟩⟩
        case round =>
          clear g
          obtain ⟨kq, rfl⟩ : ∃ kq : Nat, kq = gk := ⟨_, rfl⟩
          obtain ⟨k, hkg, rfl, HLT, hcase⟩ := hrel
          by_cases hk : k < n
          · have hki : (k : Int) < (n : Int) := by omega
            have hk0 : (0 : Int) ≤ (k : Int) := by omega
            have hks : k < s.size := by omega
            have hxd := hd k hk
            obtain ⟨x, hx⟩ : ∃ x, l.getD k 0 = x := ⟨_, rfl⟩
            have hsk : ∀ h : k < s.size, ((s[k]'h).toNat : Int) = (x : Int) := fun h => by rw [bl_at s k h, hl, hx]
            rw [hx] at hxd
            have hx1 : 48 ≤ x ∧ x ≤ 57 := by unfold NoDig at hxd; omega
            obtain ⟨d, hdd⟩ : ∃ d, x - 48 = d := ⟨_, rfl⟩
            have hd10 : d < 10 := by omega
            have hsub : IntKind.u8.wrap ((x : Int) - 48) = (d : Int) := by rw [IntKind.wrap_u8]; omega
            have hsub2 : (x : Int) - 48 = (d : Int) := by omega
            have hwd : IntKind.u64.wrap (d : Int) = (d : Int) := by rw [IntKind.wrap_u64]; omega
            have hwd8 : IntKind.u8.wrap (d : Int) = (d : Int) := by rw [IntKind.wrap_u8]; omega
            have hwd32 : IntKind.u32.wrap (d : Int) = (d : Int) := by rw [IntKind.wrap_u32]; omega
            have HS : Hid (dv l (k + 1) = 10 * dv l k + d) := Lib.hid (by rw [dv_succ (by omega), hx, hdd])
            have HL2 : Hid (dv l (k + 1) < 10 ^ (k + 1)) := Lib.hid (by rw [HS.out, Nat.pow_succ]; have := HLT.out; omega)
            have hkn : k + 1 ≤ 2467 := by omega
            clear hxd hx1 hdd hd hx
            rcases hcase with ⟨HZ, rfl, g, rfl⟩ | ⟨N, b, cap, cs, HN, rfl, hrow, hb, g, rfl⟩
            · go_wp2_with (with_reducible refine G.any_mark _ ?_; (try generalize Array.size (World.heap (G.w _)) = bk); (try dsimp only [List.set_cons_zero, List.set_cons_succ]); (try clear g); intro g)
              go_loopg [7, 8] 0 (fun gk s7 s8 wr => s7 = .int .u64 (d : Int) ∧ s8 = .int .i64 0 ∧ ∃ g : G w [] [(rc, 40, [.int .i64 0, .int .i64 0])] [heapOf w], wr = g.w)
              case atStart => exact ⟨rfl, rfl, g, rfl⟩
              case round =>
                clear g
                obtain ⟨rfl, rfl, g, rfl⟩ := hrel
                by_cases hd0 : d = 0
                · subst hd0
                  have HZ2 : Hid (dv l (k + 1) = 0) := Lib.hid (by rw [HS.out, HZ.out])
                  go_wp2_with (with_reducible refine G.any_mark _ ?_; (try generalize Array.size (World.heap (G.w _)) = bk); (try dsimp only [List.set_cons_zero, List.set_cons_succ]); (try clear g); intro g)
                  go_roundg (kq - 1)
                  case measure => omega
                  case rel => exact ⟨k + 1, by omega, by go_num, HL2, .inl ⟨HZ2, rfl, g, rfl⟩⟩
                · have hdi : (0 : Int) < (d : Int) := by omega
                  have HN2 : Hid (dv l (k + 1) = d ∧ d ≠ 0) := Lib.hid ⟨by rw [HS.out, HZ.out]; omega, hd0⟩
                  have ed : limbs d = [d] := limbs_one hd0 (by omega)
                  have HRW : Hid ((limbs d).length = 1 ∧ u32s (limbs d) = [.int .u32 (d : Int)]) := Lib.hid ⟨by rw [ed]; rfl, by rw [ed]; rfl⟩
                  have H1 : ∀ u ∈ [Value.int .u32 (d : Int)], u.oneCell' = true := by intro u hu; rw [List.mem_singleton.1 hu]; rfl
                  clear ed
                  go_wp2_with (first | (with_reducible refine G.any_mark _ ?_; (try generalize Array.size (World.heap (G.w _)) = bk); (try dsimp only [List.set_cons_zero, List.set_cons_succ]); (try clear g); intro g) | (at_builtin; refine wpList_append_lit0 rfl _ _ 24 rfl 30 i0 _ 1 4 Try.underlying24 hi hzz0 hzz1 hzz2 rfl (by decide) g rfl 1 rfl rfl H1 (by decide) (by decide) (by decide) ?_; clear g; intro b cap cs g hb hrow))
                  go_roundg (kq - 1)
                  case measure => omega
                  case rel => exact ⟨k + 1, by omega, by go_num, HL2, .inr ⟨d, b, cap, cs, HN2, by rw [HRW.out.1], by rw [HRW.out.1, HRW.out.2]; exact hrow, hb, g, rfl⟩⟩
            · have hm300 : (limbs N).length ≤ 300 := len_digits (k := k) (by rw [← HN.out.1]; exact HLT.out) (by omega)
              have hokN := ok_limbs N
              have TS : Hid (Ten (limbs N) d 0 d []) := Lib.hid (Ten.start (by omega))
              obtain ⟨m, hm⟩ : ∃ m, (limbs N).length = m := ⟨_, rfl⟩
              rw [hm] at hrow hm300 ⊢
              have HM := Lib.hid hm
              clear hm
              go_wp2_with (with_reducible refine G.any_mark _ ?_; (try generalize Array.size (World.heap (G.w _)) = bk); (try dsimp only [List.set_cons_zero, List.set_cons_succ]); (try clear g); intro g)
              go_loopg [7, 8] m (fun gk s7 s8 wr => ∃ (j c : Nat) (pre : List Nat) (cs' : List Value), j + gk = m ∧ s7 = .int .u64 (c : Int) ∧ s8 = .int .i64 (j : Int) ∧ Hid (Ten (limbs N) d j c pre) ∧ Row 30 1 m (u32s (pre ++ (limbs N).drop j)) cap cs' ∧ ∃ g : G w [] [(b, 30, cs'), (rc, 40, [.int .i64 0, .int .i64 0])] [heapOf w], wr = g.w)
              case atStart => exact ⟨0, d, [], cs, by omega, rfl, rfl, TS, hrow, g, rfl⟩
              case round =>
                clear g hrow TS
                obtain ⟨j, c, pre, cs', hjg, rfl, rfl, TJ, hrow, g, rfl⟩ := hrel
                have hc := TJ.out.lt
                by_cases hj : j < m
                · have hji : (j : Int) < (m : Int) := by omega
                  have hle := hrow.le
                  have hlenr : (pre ++ (limbs N).drop j).length = m := by rw [List.length_append, List.length_drop, TJ.out.len, HM.out]; omega
                  have hcell := hrow.get hlenr hj
                  rw [ten_get TJ.out.len] at hcell
                  have hy := hokN.getD j
                  have TJ2 := Lib.hid (TJ.out.step hokN)
                  have hset := ten_set (xs := limbs N) (x := ((limbs N).getD j 0 * 10 + 0 + c) % 4294967296) TJ.out.len (by rw [HM.out]; exact hj)
                  obtain ⟨t, ht⟩ : ∃ t, (limbs N).getD j 0 * 10 + 0 + c = t := ⟨_, rfl⟩
                  rw [ht] at TJ2 hset
                  generalize (limbs N).getD j 0 = y at *
                  obtain ⟨ty, hty⟩ : ∃ ty, 10 * y = ty := ⟨_, rfl⟩
                  have f1 : 10 * (y : Int) = (ty : Int) := by omega
                  have f2 : (c : Int) + (ty : Int) = (t : Int) := by omega
                  have f3 : IntKind.u64.wrap (ty : Int) = (ty : Int) := by rw [IntKind.wrap_u64]; omega
                  have f4 : IntKind.u64.wrap (t : Int) = (t : Int) := by rw [IntKind.wrap_u64]; omega
                  have f7 : IntKind.u64.wrap (y : Int) = (y : Int) := by rw [IntKind.wrap_u64]; omega
                  obtain ⟨lo, hlo⟩ : ∃ lo, t % 4294967296 = lo := ⟨_, rfl⟩
                  obtain ⟨hi', hhi⟩ : ∃ hi', t / 4294967296 = hi' := ⟨_, rfl⟩
                  have f5 : IntKind.u32.wrap (t : Int) = (lo : Int) := by rw [IntKind.wrap_u32]; omega
                  have f6 : (t : Int) / 4294967296 = (hi' : Int) := by omega
                  rw [hlo] at TJ2 hset
                  rw [hhi] at TJ2
                  have hrow2 := hrow.set (x := lo) hj
                  rw [hset] at hrow2
                  have HROW := Lib.hid hrow2
                  clear hset hrow hrow2 hlenr ht hty hlo hhi
                  go_wp2_with (with_reducible refine G.any_mark _ ?_; (try generalize Array.size (World.heap (G.w _)) = bk); (try dsimp only [List.set_cons_zero, List.set_cons_succ]); (try clear g); intro g)
                  go_roundg (gk - 1)
                  case measure => omega
                  case rel => exact ⟨j + 1, hi', pre ++ [lo], _, by omega, rfl, by go_num, TJ2, HROW.out, g, rfl⟩
                · obtain rfl : j = m := by omega
                  have hji : ¬ ((j : Int) < (j : Int)) := by omega
                  have TE := TJ.out
                  rw [← HM.out] at TE
                  rw [List.drop_of_length_le (by rw [HM.out]; exact Nat.le_refl _), List.append_nil] at hrow
                  by_cases hc0 : c = 0
                  · subst hc0
                    have hpre := TE.same
                    have HN2 : Hid (dv l (k + 1) = 10 * N + d ∧ 10 * N + d ≠ 0) := Lib.hid ⟨by rw [HS.out, HN.out.1], by have := HN.out.2; omega⟩
                    have HLN : Hid ((limbs (10 * N + d)).length = j) := Lib.hid (by rw [← hpre, TE.len, HM.out])
                    have HROW : Hid (Row 30 1 j (u32s (limbs (10 * N + d))) cap cs') := Lib.hid (by rw [← hpre]; exact hrow)
                    clear hpre hrow TE TJ
                    go_wp2_with (with_reducible refine G.any_mark _ ?_; (try generalize Array.size (World.heap (G.w _)) = bk); (try dsimp only [List.set_cons_zero, List.set_cons_succ]); (try clear g); intro g)
                    go_roundg (kq - 1)
                    case measure => omega
                    case rel => exact ⟨k + 1, by omega, by go_num, HL2, .inr ⟨10 * N + d, b, cap, cs', HN2, by rw [HLN.out], by rw [HLN.out]; exact HROW.out, hb, g, rfl⟩⟩
                  · have hci : (0 : Int) < (c : Int) := by omega
                    have hwc : IntKind.u32.wrap (c : Int) = (c : Int) := by rw [IntKind.wrap_u32]; omega
                    have hpre := TE.more hc0
                    have HN2 : Hid (dv l (k + 1) = 10 * N + d ∧ 10 * N + d ≠ 0) := Lib.hid ⟨by rw [HS.out, HN.out.1], by have := HN.out.2; omega⟩
                    have HLN : Hid ((limbs (10 * N + d)).length = j + 1) := Lib.hid (by rw [← hpre, List.length_append, TE.len, HM.out]; rfl)
                    have HAP : Hid (u32s (limbs (10 * N + d)) = u32s pre ++ [.int .u32 (c : Int)]) := Lib.hid (by rw [← hpre, u32s_append]; rfl)
                    have H1 : ∀ u ∈ [Value.int .u32 (c : Int)], u.oneCell' = true := by intro u hu; rw [List.mem_singleton.1 hu]; rfl
                    have H2 : j + 1 ≤ maxLen := by show j + 1 ≤ 9223372036854775807; omega
                    have H3 : (j + 1) * 4 ≤ 140737488355328 := by omega
                    clear hpre TE TJ
                    go_wp2_with (first | (with_reducible refine G.any_mark _ ?_; (try generalize Array.size (World.heap (G.w _)) = bk); (try dsimp only [List.set_cons_zero, List.set_cons_succ]); (try clear g); intro g) | (at_builtin; refine wpList_append_lit rfl _ _ 24 rfl 30 i0 _ 1 4 Try.underlying24 hi hzz0 hzz1 hzz2 rfl (by decide) g hrow hb rfl 1 rfl rfl H1 (by decide) H2 H3 ?_; clear hb hrow g; intro b cap cs g hb hrow))
                    go_roundg (kq - 1)
                    case measure => omega
                    case rel => exact ⟨k + 1, by omega, by go_num, HL2, .inr ⟨10 * N + d, b, cap, cs, HN2, by rw [HLN.out], by rw [HLN.out, HAP.out]; exact hrow, hb, g, rfl⟩⟩
          · obtain rfl : k = n := by omega
            have hki : ¬ ((k : Int) < (k : Int)) := by omega
            rcases hcase with ⟨HZ, rfl, g, rfl⟩ | ⟨N, b, cap, cs, HN, rfl, hrow, hb, g, rfl⟩
            · have CF := rfits_yes none 0 0
              rw [limbs_zero, List.length_nil] at CF
              replace CF := Lib.hid CF
              have HB0 : Hid (0 < 2 ^ 8192) := Lib.hid (Nat.two_pow_pos _)
              have hsn : SlW g.w none 0 [] := Frag.Sl.nil _ _
              go_wp2_with (with_reducible refine G.any_mark _ ?_; (try generalize Array.size (World.heap (G.w _)) = bk); (try dsimp only [List.set_cons_zero, List.set_cons_succ]); (try clear g); intro g)
              refine (CF.out _ hsn HB0.out).mono ?_
              rintro e w1 ⟨rfl, hb⟩
              obtain ⟨g1, rfl⟩ := G.call_ex _ hb
              clear hb
              (try clear g)
              revert g1
              intro g
              clear hsn
              go_wp2_with (with_reducible refine G.any_mark _ ?_; (try generalize Array.size (World.heap (G.w _)) = bk); (try dsimp only [List.set_cons_zero, List.set_cons_succ]); (try clear g); intro g)
              ((try simp only [G.drew_eq, G.drewN_eq]); (refine G.any_mark _ ?_; (try generalize Array.size (World.heap (G.w _)) = bk); (try dsimp only [List.set_cons_zero, List.set_cons_succ]); (try clear g); intro g))
              refine bodyPost_ret (v := .tuple #[.slice none 0 0, .agg #[.int .i64 0, .int .i64 0]]) (by simp [results, Try.f24, go_sem]) rfl ⟨fun _ => ?_, fun h => absurd (by rw [HZ.out]; exact HB0.out) h⟩
              rw [HZ.out]
              exact ⟨none, 0, (fun _ => none), by rw [limbs_zero]; rfl, by rw [limbs_zero]; exact Frag.Sl.nil _ _, g.none⟩
            · have hsl : SlW g.w (some ⟨b, 0, none⟩) cap (limbs N) := (sl_row hrow rfl (by have h300 : (limbs N).length ≤ 300 := len_digits (v := N) (k := k) (by rw [← HN.out.1]; exact HLT.out) (by omega); omega) (ok_limbs N)).at (blkF_sub g.blk0)
              have HM0 : Hid ((limbs N).length ≤ 140737488355328) := Lib.hid (by have h300 : (limbs N).length ≤ 300 := len_digits (v := N) (k := k) (by rw [← HN.out.1]; exact HLT.out) (by omega); omega)
              by_cases hN8 : N < 2 ^ 8192
              · have CF := Lib.hid (fun w h => rfits_yes (some ⟨b, 0, none⟩) cap N w h hN8)
                have H8 := Lib.hid hN8
                clear hN8
                go_wp2_with (with_reducible refine G.any_mark _ ?_; (try generalize Array.size (World.heap (G.w _)) = bk); (try dsimp only [List.set_cons_zero, List.set_cons_succ]); (try clear g); intro g)
                refine (CF.out _ hsl).mono ?_
                rintro e w1 ⟨rfl, hb⟩
                obtain ⟨g1, rfl⟩ := G.call_ex _ hb
                clear hb
                (try clear g)
                revert g1
                intro g
                clear hsl
                go_wp2_with (with_reducible refine G.any_mark _ ?_; (try generalize Array.size (World.heap (G.w _)) = bk); (try dsimp only [List.set_cons_zero, List.set_cons_succ]); (try clear g); intro g)
                ((try simp only [G.drew_eq, G.drewN_eq]); (refine G.any_mark _ ?_; (try generalize Array.size (World.heap (G.w _)) = bk); (try dsimp only [List.set_cons_zero, List.set_cons_succ]); (try clear g); intro g))
                have hlen := HM0.out
                refine bodyPost_ret (v := .tuple #[.slice (some ⟨b, 0, none⟩) (limbs N).length cap, .agg #[.int .i64 0, .int .i64 0]]) (by simp [results, Try.f24, go_sem]) rfl ⟨fun _ => ?_, fun h => absurd (by rw [HN.out.1]; exact H8.out) h⟩
                rw [HN.out.1]
                exact ⟨_, cap, _, rfl, sl_row hrow rfl hlen (ok_limbs N), g.give (List.mem_cons_self ..)⟩
              · have CF := Lib.hid (fun w h => rfits_no (some ⟨b, 0, none⟩) cap N w h hN8)
                have H8 := Lib.hid hN8
                clear hN8
                go_wp2_with (with_reducible refine G.any_mark _ ?_; (try generalize Array.size (World.heap (G.w _)) = bk); (try dsimp only [List.set_cons_zero, List.set_cons_succ]); (try clear g); intro g)
                refine (CF.out _ hsl).mono ?_
                rintro e w1 ⟨rfl, hb⟩
                obtain ⟨g1, rfl⟩ := G.call_ex _ hb
                clear hb
                (try clear g)
                revert g1
                intro g
                clear hsl
                go_wp2_with (with_reducible refine G.any_mark _ ?_; (try generalize Array.size (World.heap (G.w _)) = bk); (try dsimp only [List.set_cons_zero, List.set_cons_succ]); (try clear g); intro g)
                ((try simp only [G.drew_eq, G.drewN_eq]); (refine G.any_mark _ ?_; (try generalize Array.size (World.heap (G.w _)) = bk); (try dsimp only [List.set_cons_zero, List.set_cons_succ]); (try clear g); intro g))
                refine bodyPost_ret (v := .tuple #[.slice none 0 0, .agg #[.int .i64 5, .int .i64 0]]) (by simp [results, Try.f24, go_sem]) rfl ⟨fun h => absurd (by rw [HN.out.1] at h; exact h) H8.out, fun _ => ?_⟩
                exact ⟨none, 0, (fun _ => none), by rw [limbs_zero]; rfl, by rw [limbs_zero]; exact Frag.Sl.nil _ _, g.none⟩
end Go.Proofs.Ytfifcpgjcgoinaa
namespace Go.Proofs.Ytfifcpgjcgoinaa
open Go.RowKit GW NL
set_option maxRecDepth 20000 in
set_option maxHeartbeats 4000000 in
theorem rmul_any (A1 A2 : Option Addr) (c1 c2 : Nat) (l1 l2 : List Nat) (w : World) (h1 : SlW w A1 c1 l1) (h2 : SlW w A2 c2 l2) (hl1 : l1.length ≤ 1000000000) (hl2 : l2.length ≤ 1000000000) :
    Calls Try.prog 74 #[.slice A1 l1.length c1, .slice A2 l2.length c2] w (RNat (val l1 * val l2) w) := by
  refine calls_b fun g => ?_
  obtain ⟨n1, hn1⟩ : ∃ n : Nat, l1.length = n := ⟨_, rfl⟩
  obtain ⟨n2, hn2⟩ : ∃ n : Nat, l2.length = n := ⟨_, rfl⟩
  obtain ⟨n, hn⟩ : ∃ n : Nat, n1 + n2 = n := ⟨_, rfl⟩
  have hmk : ∀ w, (Instr.makeSlice 24 (.int .i64 ((n1 : Int) + (n2 : Int))) (.int .i64 ((n1 : Int) + (n2 : Int)))).run Try.prog w = .ok (.slice (some ⟨w.heap.size, 0, none⟩) n n) (w.alloc (.cells (u32s (List.replicate n 0)).toArray 30)) := by
    intro w
    have := make_nat n (by omega) w
    rw [← hn] at this ⊢
    exact this
  rw [hn1, hn2]
  have HN1 := Lib.hid hn1
  have HN2 := Lib.hid hn2
  have HN := Lib.hid hn
  have ha1 : l1.length ≤ n1 := by omega
  have ha2 : n1 ≤ l1.length := by omega
  have ha3 : l2.length ≤ n2 := by omega
  have ha4 : n2 ≤ l2.length := by omega
  have ha5 : n ≤ n1 + n2 := by omega
  have ha6 : n1 + n2 ≤ n := by omega
  clear hn1 hn2 hn
  go_enter Try.func74, Try.ntmps74
  go_wp2_with (with_reducible refine G.any_mark _ ?_; (try generalize Array.size (World.heap (G.w _)) = bk); (try dsimp only [List.set_cons_zero, List.set_cons_succ]); (try clear g); intro g)
  obtain ⟨ob, rfl⟩ : ∃ ob : Nat, ob = bk := ⟨_, rfl⟩
  go_loopg [6] n1 (fun gk i wr => ∃ (k : Nat) (out : List Nat), k + gk = n1 ∧ i = .int .i64 k ∧ n ≤ out.length ∧ out.length ≤ n ∧ Ok out ∧ Hid (∀ j, k + n2 ≤ j → out.getD j 0 = 0) ∧ Hid (val out = val (l1.take k) * val l2) ∧ ∃ g : G w [] [(ob, 30, u32s out)] [heapOf w], wr = g.w)
  case atStart => exact ⟨0, List.replicate n 0, by omega, rfl, by simp, by simp, Ok.zeros _, fun j _ => by simp [List.getElem?_replicate]; split <;> rfl, Lib.hid (by rw [val_zeros]; simp [val]), g, rfl⟩
  case round =>
    clear g hmk
    obtain ⟨ko, rfl⟩ : ∃ ko : Nat, ko = gk := ⟨_, rfl⟩
    obtain ⟨k, out, hkg, rfl, hp1, hp2, hok, HZ, HV, g, rfl⟩ := hrel
    by_cases hk2 : k < n1
    · obtain ⟨b, o, rfl, hcell⟩ := lim_cells h1.lim (by omega)
      have e0 := Lib.hid (hcell k (by omega))
      clear hcell
      have hx := h1.ok.getD k
      obtain ⟨x, hxe⟩ : ∃ x, l1.getD k 0 = x := ⟨_, rfl⟩
      rw [hxe] at e0 hx
      have HX := Lib.hid hxe
      clear hxe
      have hko : 0 < ko := by omega
      go_wp2_with (with_reducible refine G.any_mark _ ?_; (try generalize Array.size (World.heap (G.w _)) = bk); (try dsimp only [List.set_cons_zero, List.set_cons_succ]); (try clear g); intro g)
      go_loopg [7, 8] n2 (fun gk s7 s8 wr => ∃ (j c : Nat) (out : List Nat), j + gk = n2 ∧ s7 = .int .u64 c ∧ s8 = .int .i64 j ∧ n ≤ out.length ∧ out.length ≤ n ∧ Ok out ∧ c < 4294967296 ∧ Hid (∀ i, k + n2 ≤ i → out.getD i 0 = 0) ∧ Hid (val out + 4294967296 ^ (k + j) * c = val (l1.take k) * val l2 + 4294967296 ^ k * (x * val (l2.take j))) ∧ ∃ g : G w [] [(ob, 30, u32s out)] [heapOf w], wr = g.w)
      case atStart => exact ⟨0, 0, out, by omega, rfl, rfl, hp1, hp2, hok, by omega, HZ, Lib.hid (by rw [List.take_zero]; simp [val]; exact HV.out), g, rfl⟩
      case round =>
        clear g
        clear HV HZ hok hp1 hp2
        obtain ⟨j, c, out, hjg, rfl, rfl, hp1, hp2, hok, hc, HZ, HV, g, rfl⟩ := hrel
        by_cases hj2 : j < n2
        · obtain ⟨b2, o2, rfl, hcell⟩ := lim_cells h2.lim (by omega)
          have e1 := Lib.hid (hcell j (by omega))
          clear hcell
          have hy := h2.ok.getD j
          obtain ⟨kj, hkj'⟩ : ∃ kj, k + j = kj := ⟨_, rfl⟩
          have hkj : kj < out.length := by omega
          have e2 := u32s_getD hkj
          have hzz := hok.getD kj
          have st := Lib.hid (mul_step (l2 := l2) (by rw [hkj']; exact hkj) HV.out)
          rw [hkj'] at st
          have hs := Lib.hid (u32s_set out kj ((x * l2.getD j 0 + out.getD kj 0 + c) % 4294967296))
          have hc2 := mul_carry hx hy hzz hc
          have hr : (x * l2.getD j 0 + out.getD kj 0 + c) % 4294967296 < 4294967296 := by omega
          have HZ2 : Hid (∀ i, k + n2 ≤ i → (out.set kj ((x * l2.getD j 0 + out.getD kj 0 + c) % 4294967296)).getD i 0 = 0) := Lib.hid (fun i hi => by rw [NL.getD_set_ne (by omega)]; exact HZ.out i hi)
          have hok2 := hok.set kj hr
          have hlen : (out.set kj ((x * l2.getD j 0 + out.getD kj 0 + c) % 4294967296)).length = out.length := List.length_set ..
          have hbig := mul_bound x (l2.getD j 0) (out.getD kj 0) c hx hy hzz hc
          generalize out.getD kj 0 = z at *
          generalize l2.getD j 0 = y at *
          obtain ⟨xy, hxy⟩ : ∃ xy, x * y = xy := ⟨_, rfl⟩
          have f0 : (x : Int) * (y : Int) = (xy : Int) := by rw [← hxy]; exact (Int.natCast_mul x y).symm
          rw [hxy] at st hs hc2 hr HZ2 hok2 hlen hbig
          obtain ⟨t, ht⟩ : ∃ t, xy + z + c = t := ⟨_, rfl⟩
          rw [ht] at st hs hc2 hr HZ2 hok2 hlen hbig
          obtain ⟨cz, hcz⟩ : ∃ cz, c + z = cz := ⟨_, rfl⟩
          have f1 : (c : Int) + (z : Int) = (cz : Int) := by omega
          have f2 : (cz : Int) + (xy : Int) = (t : Int) := by omega
          have f3 : IntKind.u64.wrap (cz : Int) = (cz : Int) := by rw [IntKind.wrap_u64]; omega
          have f4 : IntKind.u64.wrap (t : Int) = (t : Int) := by rw [IntKind.wrap_u64]; omega
          have f5 : IntKind.u64.wrap (xy : Int) = (xy : Int) := by rw [IntKind.wrap_u64]; omega
          have f6 : IntKind.u64.wrap (x : Int) = (x : Int) := by rw [IntKind.wrap_u64]; omega
          have f7 : IntKind.u64.wrap (y : Int) = (y : Int) := by rw [IntKind.wrap_u64]; omega
          have f8 : IntKind.u64.wrap (z : Int) = (z : Int) := by rw [IntKind.wrap_u64]; omega
          obtain ⟨r, hrr⟩ : ∃ r, t % 4294967296 = r := ⟨_, rfl⟩
          obtain ⟨q, hqq⟩ : ∃ q, t / 4294967296 = q := ⟨_, rfl⟩
          have f9 : IntKind.u32.wrap (t : Int) = (r : Int) := by rw [IntKind.wrap_u32]; omega
          have f10 : (t : Int) / 4294967296 = (q : Int) := by omega
          rw [hrr] at st hs hr HZ2 hok2 hlen
          rw [hqq] at st hc2
          have hl1 := Nat.le_of_eq hlen
          have hl2 := Nat.le_of_eq hlen.symm
          have g1 : (k : Int) + (j : Int) = (kj : Int) := by omega
          have g2 : IntKind.i64.wrap (kj : Int) = (kj : Int) := by rw [IntKind.wrap_i64]; omega
          have g3 : (kj : Int) < (n : Int) := by omega
          have g4 : kj < n := by omega
          have HKJ := Lib.hid hkj'
          clear hlen hxy ht hcz hrr hqq hbig hkj' HZ HV
          have ee0 := e0.out _ _ _ _ g (by simp)
          have ee1 := e1.out _ _ _ _ g (by simp)
          go_wp2_with fail
          go_region_held3 (fun w' => w'.cell? ⟨ob, kj, none⟩ = some (.int .u32 (z : Int)) ∧ w'.cell? ⟨b, o + k, none⟩ = some (.int .u32 (x : Int)) ∧ w'.cell? ⟨b2, o2 + j, none⟩ = some (.int .u32 (y : Int))) ((simp only [G.drew_eq, G.drewN_eq, G.cell0]; exact ⟨e2, e0.out _ _ _ _ _ (by simp), e1.out _ _ _ _ _ (by simp)⟩)) (fail)
          clear ee0 ee1
          ((try simp only [G.drew_eq, G.drewN_eq]); (refine G.any_mark _ ?_; (try generalize Array.size (World.heap (G.w _)) = bk); (try dsimp only [List.set_cons_zero, List.set_cons_succ]); (try clear g); intro g))
          go_wp2_with (with_reducible refine G.any_mark _ ?_; (try generalize Array.size (World.heap (G.w _)) = bk); (try dsimp only [List.set_cons_zero, List.set_cons_succ]); (try clear g); intro g)
          obtain ⟨g2', hg2⟩ := g.as (by rw [hs.out])
          go_roundg (gk - 1)
          case measure => omega
          case rel => exact ⟨j + 1, q, out.set kj r, by omega, rfl, by go_num, by omega, by omega, hok2, hc2, HZ2, Lib.hid (by have := st.out; have e := HKJ.out; rw [← e] at this ⊢; exact this), g2', hg2⟩
        · obtain rfl : j = n2 := by omega
          have hn2 : l2.length = j := by omega
          obtain ⟨kj, hkj'⟩ : ∃ kj, k + j = kj := ⟨_, rfl⟩
          have hkl : k + l2.length < out.length := by omega
          have hkl' : kj < out.length := by omega
          have hz0 := HZ.out (k + j) (Nat.le_refl _)
          have e2 := u32s_getD hkl'
          have rd := Lib.hid (mul_round (l1 := l1) (c := c) hkl (by rw [hn2]; exact hz0) (by rw [HX.out, hn2]; exact HV.out))
          have hs := Lib.hid (u32s_set out kj c)
          have hok2 := hok.set kj hc
          have HZ2 : Hid (∀ i, k + 1 + j ≤ i → (out.set kj c).getD i 0 = 0) := Lib.hid (fun i hi => by rw [NL.getD_set_ne (by omega)]; exact HZ.out i (by omega))
          rw [hn2, hkj'] at rd
          have hlen : (out.set kj c).length = out.length := List.length_set ..
          have hl1 := Nat.le_of_eq hlen
          have hl2 := Nat.le_of_eq hlen.symm
          have f9 : IntKind.u32.wrap (c : Int) = (c : Int) := by rw [IntKind.wrap_u32]; omega
          have g1 : (k : Int) + (j : Int) = (kj : Int) := by omega
          have g2 : IntKind.i64.wrap (kj : Int) = (kj : Int) := by rw [IntKind.wrap_i64]; omega
          have g3 : (kj : Int) < (n : Int) := by omega
          have g4 : kj < n := by omega
          clear hlen hn2 hz0 HZ HV hkj'
          generalize out.getD kj 0 = z at *
          go_wp2_with (with_reducible refine G.any_mark _ ?_; (try generalize Array.size (World.heap (G.w _)) = bk); (try dsimp only [List.set_cons_zero, List.set_cons_succ]); (try clear g); intro g)
          obtain ⟨g2', hg2⟩ := g.as (by rw [hs.out])
          go_roundg (ko - 1)
          case measure => omega
          case rel => exact ⟨k + 1, out.set kj c, by omega, by go_num, by omega, by omega, hok2, HZ2, rd, g2', hg2⟩
    · obtain rfl : k = n1 := by omega
      have hn1 : l1.length ≤ k := by omega
      have e1 := HV.out
      rw [val_take_all hn1] at e1
      have E1 := Lib.hid e1
      obtain rfl : n = out.length := by omega
      clear e1 hn1
      have hsl : SlW g.w (some ⟨ob, 0, none⟩) out.length out := (sl_blk (Nat.le_refl _) (by omega) hok).at (blkF_sub g.blk0)
      clear HN
      go_wp2_with (with_reducible refine G.any_mark _ ?_; (try generalize Array.size (World.heap (G.w _)) = bk); (try dsimp only [List.set_cons_zero, List.set_cons_succ]); (try clear g); intro g)
      refine (rtrim_any _ _ out _ hsl).mono ?_
      rintro e w1 ⟨rfl, hb⟩
      obtain ⟨g1, rfl⟩ := G.call_ex _ hb
      clear hb hsl g
      revert g1
      intro g
      go_wp2_with (with_reducible refine G.any_mark _ ?_; (try generalize Array.size (World.heap (G.w _)) = bk); (try dsimp only [List.set_cons_zero, List.set_cons_succ]); (try clear g); intro g)
      go_ret
      exact rnat_end g (List.mem_cons_self ..) hok (Nat.le_refl _) (by omega) E1.out
end Go.Proofs.Ytfifcpgjcgoinaa
