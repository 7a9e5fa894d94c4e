/- Contracts of functions of the program, out of walks. Their conditions stand ahead of each. -/
import Derived.Test.YtfifcpgjcgoinaaN11
set_option linter.unusedVariables false
set_option linter.unusedSimpArgs false
namespace Go.Proofs.Ytfifcpgjcgoinaa
open Go.RowKit GW NL
theorem down_zero {l : List Nat} (hk : Ok l) {m : Nat} (h : l.length ≤ m / 32) : val l / 2 ^ m = 0 := by
  apply Nat.div_eq_of_lt
  have h1 := val_lt hk
  rw [pow32] at h1
  exact Nat.lt_of_lt_of_le h1 (Nat.pow_le_pow_right (by decide) (by omega))
set_option maxRecDepth 100000 in
set_option maxHeartbeats 1000000 in
theorem shift_down (A : Option Addr) (c : Nat) (l : List Nat) (m : Nat) (N : Int) (w : World) (h : SlW w A c l) (hl : l.length ≤ 1000000000) (hN : -N = (m : Int)) (hm0 : N < 0) (hm : m ≤ 1000000000) :
    Calls Try.prog 66 #[.slice A l.length c, .int .i64 N] w (RNat (val l / 2 ^ m) w) := by
  refine calls_b fun g => ?_
  obtain ⟨n1, hn1⟩ : ∃ n : Nat, l.length = n := ⟨_, rfl⟩
  obtain ⟨q, hq⟩ : ∃ q : Nat, m / 32 = q := ⟨_, rfl⟩
  obtain ⟨r, hr⟩ : ∃ r : Nat, m % 32 = r := ⟨_, rfl⟩
  have hr32 : r < 32 := by omega
  have hqi : Int.tdiv (m : Int) 32 = (q : Int) := by rw [Int.tdiv_eq_ediv_of_nonneg (by omega)]; omega
  have hri : Int.tmod (m : Int) 32 = (r : Int) := by rw [Int.tmod_eq_emod_of_nonneg (by omega)]; omega
  have hZ := Lib.hid (down_zero (m := m) h.ok)
  have hD : Hid (val l / 2 ^ m = val (l.drop q) / 2 ^ r) := Lib.hid (by rw [div_pow_split, hq, hr, val_div l h.ok])
  have hmx := h.len
  have hmxx := h.max
  have hcp := h.cap
  have hq9 : q ≤ 1000000000 := by omega
  by_cases hqn : l.length ≤ q
  · have hz := hZ.out (by omega)
    rw [hz]
    clear hZ hD
    rw [hn1] at hqn ⊢
    have hn1' : n1 ≤ 140737488355328 := by omega
    clear hn1 hq hr
    have hm' : (m : Int) ≤ 1000000000 := by omega
    generalize (m : Int) = mi at *
    go_enter Try.func66, Try.ntmps66
    go_wp2_with (with_reducible refine G.any_mark _ ?_; (try generalize Array.size (World.heap (G.w _)) = bk); (try dsimp only [List.set_cons_zero, List.set_cons_succ]); (try clear g); intro g)
    go_ret
    exact ⟨none, 0, _, by simp only [limbs_zero]; rfl, by simp only [limbs_zero]; exact Frag.Sl.nil _ _, g.none⟩
  · obtain ⟨n, hn⟩ : ∃ n : Nat, n1 - q = n := ⟨_, rfl⟩
    have hqn' : q < n1 := by omega
    have HQ3 : Hid (decide (n1 ≤ q) = false) := Lib.hid (by rw [decide_eq_false_iff_not]; omega)
    have hmk : ∀ w, (Instr.makeSlice 24 (.int .i64 ((n1 : Int) - (q : Int))) (.int .i64 ((n1 : Int) - (q : Int)))).run Try.prog w = .ok (.slice (some ⟨w.heap.size, 0, none⟩) n n) (w.alloc (.cells (u32s (List.replicate n 0)).toArray 30)) := by
      intro w
      have := make_nat n (by omega) w
      rw [show (n1 : Int) - (q : Int) = (n : Int) by omega]
      exact this
    have hn' : n1 ≤ n + q := by omega
    have hn'' : n + q ≤ n1 := by omega
    have ha1 : l.length ≤ n1 := by omega
    have ha2 : n1 ≤ l.length := by omega
    rw [hn1]
    have hn1' : n1 ≤ 1000000000 := by omega
    clear hn1 hq hr hZ hn hqn hl
    have hm' : (m : Int) ≤ 1000000000 := by omega
    rw [hD.out]
    clear hm hD
    generalize (m : Int) = mi at *
    go_enter Try.func66, Try.ntmps66
    go_wp2_with (with_reducible refine G.any_mark _ ?_; (try generalize Array.size (World.heap (G.w _)) = bk); (try dsimp only [List.set_cons_zero, List.set_cons_succ]); (try clear g); intro g)
    simp only [HQ3.out]
    go_loopw [32] (fun i wr => ∃ (k : Nat) (pre : List Nat), i = .int .i64 k ∧ k ≤ n ∧ pre.length = k ∧ Ok pre ∧ val pre = val (l.drop q) / 2 ^ r % 4294967296 ^ k ∧ ∃ g : G w [] [(bk, 30, u32s (pre ++ List.replicate (n - k) 0))] [heapOf w], wr = g.w) (fun i _ => n - (intOf i).toNat)
    case atStart => exact ⟨0, [], rfl, Nat.zero_le _, rfl, Ok.nil, by simp [val, Nat.mod_one], g, rfl⟩
    case round =>
      clear g hmk
      obtain ⟨k, pre, rfl, hk, hp, hok, hv, g, rfl⟩ := hrel
      have HP := Lib.hid hp
      have HV := Lib.hid hv
      clear hp hv
      by_cases hk2 : k < n
      · obtain ⟨b, o, rfl, hcell⟩ := lim_cells h.lim (by omega)
        have e0 := Lib.hid (hcell (k + q) (by omega))
        clear hcell
        have hx := h.ok.getD (k + q)
        have hy := h.ok.getD (k + q + 1)
        have hpl := u32s_zero_at HP.out hk2
        have dl := down_limb (h.ok.drop q) k r hr32
        have ed1 : (l.drop q).getD k 0 = l.getD (k + q) 0 := by rw [List.getD_eq_getElem?_getD, List.getElem?_drop, Nat.add_comm, ← List.getD_eq_getElem?_getD]
        have ed2 : (l.drop q).getD (k + 1) 0 = l.getD (k + q + 1) 0 := by rw [List.getD_eq_getElem?_getD, List.getElem?_drop, show q + (k + 1) = k + q + 1 by omega, ← List.getD_eq_getElem?_getD]
        rw [ed1, ed2] at dl
        have st := Lib.hid (low_step HP.out HV.out dl)
        have hq := Lib.hid (set_zeros' HP.out hk2 ((l.getD (k + q) 0 + 4294967296 * l.getD (k + q + 1) 0) / 2 ^ r % 4294967296))
        have CL := Lib.hid (fun w (hw : SlW w (some ⟨b, o, none⟩) c l) => limb_any (some ⟨b, o, none⟩) c l (k + q + 1) w hw (by omega))
        have hr : (l.getD (k + q) 0 + 4294967296 * l.getD (k + q + 1) 0) / 2 ^ r % 4294967296 < 4294967296 := Nat.mod_lt _ (by decide)
        clear dl ed1 ed2
        generalize l.getD (k + q) 0 = x at *
        generalize l.getD (k + q + 1) 0 = y at *
        have hor : bits .or .u64 (IntKind.u64.wrap (IntKind.u64.wrap (y : Int) * 4294967296)) (IntKind.u64.wrap (x : Int)) = ((x + 4294967296 * y : Nat) : Int) := by
          rw [show IntKind.u64.wrap (y : Int) = (y : Int) by rw [IntKind.wrap_u64]; omega, show IntKind.u64.wrap (x : Int) = (x : Int) by rw [IntKind.wrap_u64]; omega]
          rw [show IntKind.u64.wrap ((y : Int) * 4294967296) = ((4294967296 * y : Nat) : Int) by rw [IntKind.wrap_u64]; omega, K3.or64_comm, K3.or64_add _ _ 32 (by omega) (by omega) (by omega) (by omega), Nat.add_comm]
        have ht : x + 4294967296 * y < 18446744073709551616 := by omega
        obtain ⟨t, htt⟩ : ∃ t, x + 4294967296 * y = t := ⟨_, rfl⟩
        rw [htt] at hor ht st hq hr
        clear htt
        obtain ⟨z, hz⟩ : ∃ z, t / 2 ^ r % 4294967296 = z := ⟨_, rfl⟩
        rw [hz] at st hq hr
        have HE : Hid (IntKind.u32.wrap (bits .or .u64 (IntKind.u64.wrap (IntKind.u64.wrap (y : Int) * 4294967296)) (IntKind.u64.wrap (x : Int)) / 2 ^ r) = (z : Int)) := Lib.hid (by
          rw [hor, ← hz, show (t : Int) / 2 ^ r = ((t / 2 ^ r : Nat) : Int) by rw [Int.natCast_ediv, Int.natCast_pow]; rfl, IntKind.wrap_u32]
          omega)
        clear hz hor ht
        have hi1 : (k : Int) + (q : Int) < (n1 : Int) := by omega
        have hi2 : (k : Int) < (n : Int) := by omega
        have hi3 : (0 : Int) ≤ (k : Int) + (q : Int) := by omega
        have hi4 : ¬ ((k : Int) + (q : Int) < 0) := by omega
        obtain ⟨j, hj⟩ : ∃ j : Nat, k + q = j := ⟨_, rfl⟩
        have hw1 : IntKind.i64.wrap ((k : Int) + (q : Int)) = (j : Int) := by rw [IntKind.wrap_i64]; omega
        have hw2 : IntKind.i64.wrap ((j : Int) + 1) = (j : Int) + 1 := by rw [IntKind.wrap_i64]; omega
        rw [hj] at e0
        have CL : Hid (∀ w, SlW w (some ⟨b, o, none⟩) c l → Calls Try.prog 76 #[.slice (some ⟨b, o, none⟩) n1 c, .int .i64 ((j : Int) + 1)] w fun e w' => e = .returned (.int .u32 ((y : Nat) : Int)) ∧ w = w') := Lib.hid (fun w hw => by
          have := CL.out w hw
          rwa [show ((k + q + 1 : Nat) : Int) = (j : Int) + 1 by omega, show l.length = n1 by omega] at this)
        have hr0 : ¬ ((r : Int) < 0) := by omega
        have hr1 : (0 : Int) ≤ (r : Int) := by omega
        have hj1 : j < n1 := by omega
        have hj2 : (j : Int) < (n1 : Int) := by omega
        go_wp2_with (with_reducible refine G.any_mark _ ?_; (try generalize Array.size (World.heap (G.w _)) = bk); (try dsimp only [List.set_cons_zero, List.set_cons_succ]); (try clear g); intro g)
        go_region_held3 (fun w' => w'.cell? ⟨b, o + j, none⟩ = some (.int .u32 ((x : Nat) : Int))) (exact e0.out _ _ _ _ _ (by simp)) ((go_at_call 76; refine (CL.out _ (G.sl _ (by simp) h)).mono ?_; rintro e w1 ⟨rfl, rfl⟩))
        ((try simp only [G.drew_eq, G.drewN_eq]); (refine G.any_mark _ ?_; (try generalize Array.size (World.heap (G.w _)) = bk); (try dsimp only [List.set_cons_zero, List.set_cons_succ]); (try clear g); intro g))
        go_wp2_with (with_reducible refine G.any_mark _ ?_; (try generalize Array.size (World.heap (G.w _)) = bk); (try dsimp only [List.set_cons_zero, List.set_cons_succ]); (try clear g); intro g)
        obtain ⟨g2, hg2⟩ := g.as (by rw [HE.out, u32s_set, hq.out])
        exact ⟨⟨k + 1, pre ++ [z], by go_num, by omega, by rw [List.length_append, HP.out]; rfl, hok.append (Ok.cons hr Ok.nil), st.out, g2, hg2⟩, by simp [intOf]; omega⟩
      · obtain rfl : k = n := by omega
        have e1 := down_end (h.ok.drop q) (n := k) (by rw [List.length_drop]; omega) HV.out
        obtain ⟨g2, hg2⟩ := g.as (M' := [(bk, 30, u32s pre)]) (by rw [Nat.sub_self, List.replicate_zero, List.append_nil])
        rw [hg2]
        clear hg2 g
        revert g2
        intro g
        have E1 := Lib.hid e1
        clear e1
        have hp := HP.out
        clear HP
        subst hp
        have hsl : SlW g.w (some ⟨bk, 0, none⟩) pre.length pre := (sl_blk (Nat.le_refl _) (by omega) hok).at (blkF_sub g.blk0)
        go_wp2_with (with_reducible refine G.any_mark _ ?_; (try generalize Array.size (World.heap (G.w _)) = bk); (try dsimp only [List.set_cons_zero, List.set_cons_succ]); (try clear g); intro g)
        refine (trim_any _ _ pre _ hsl).mono ?_
        rintro e w1 ⟨rfl, hb⟩
        obtain ⟨g1, rfl⟩ := G.call_ex _ hb
        clear hb hsl g
        revert g1
        intro g
        go_wp2_with (with_reducible refine G.any_mark _ ?_; (try generalize Array.size (World.heap (G.w _)) = bk); (try dsimp only [List.set_cons_zero, List.set_cons_succ]); (try clear g); intro g)
        go_ret
        exact rnat_end g (List.mem_cons_self ..) hok (Nat.le_refl _) (by omega) E1.out
end Go.Proofs.Ytfifcpgjcgoinaa
