/- Plain facts and contracts of functions of the program, out of walks. Their conditions stand ahead of each. -/
import Derived.Test.YtfifcpgjcgoinaaQ23
set_option linter.unusedVariables false
set_option linter.unusedSimpArgs false
set_option exponentiation.threshold 10000
namespace Go.Proofs.Ytfifcpgjcgoinaa
open Go.RowKit GW NL
theorem sl_drop {f : Frag} {b o c : Nat} {l : List Nat} (h : f.Sl (some ⟨b, o, none⟩) c l) (q : Nat) (hq : q ≤ l.length) : f.Sl (some ⟨b, o + q, none⟩) (c - q) (l.drop q) := by
  have h1 := h.cap
  have h2 := h.max
  have h3 := h.len
  refine ⟨by rw [List.length_drop]; omega, by omega, by rw [List.length_drop]; omega, ?_, h.ok.drop q⟩
  intro hl
  rw [List.length_drop] at hl
  obtain ⟨b', o', e, cs, T, fr, hb, hc⟩ := h.lim (by omega)
  cases e
  refine ⟨b, o + q, rfl, cs, T, fr, hb, fun j hj => ?_⟩
  rw [List.length_drop] at hj
  rw [getD_drop, show o + q + j = o + (q + j) by omega]
  exact hc (q + j) (by omega)
/-- one limb shifted up, with what came from below -/
theorem up_next {pre l : List Nat} {k c r X : Nat} (hp : pre.length = k) (hr : r < 32) (hc : c < 2 ^ r) (hX : l.getD k 0 = X) (hx : X < 4294967296) (h : val pre + 4294967296 ^ k * c = val (l.take k) * 2 ^ r) :
    (X * 2 ^ r + c) / 4294967296 < 2 ^ r ∧ X * 2 ^ r + c < 18446744073709551616 ∧ val (pre ++ [(X * 2 ^ r + c) % 4294967296]) + 4294967296 ^ (k + 1) * ((X * 2 ^ r + c) / 4294967296) = val (l.take (k + 1)) * 2 ^ r := by
  have h1 : X * 2 ^ r + 2 ^ r ≤ 4294967296 * 2 ^ r := by
    have := Nat.mul_le_mul_right (2 ^ r) (Nat.succ_le_of_lt hx)
    rwa [Nat.succ_mul] at this
  have h2 : (2 : Nat) ^ r ≤ 2 ^ 31 := Nat.pow_le_pow_right (by decide) (by omega)
  refine ⟨Nat.div_lt_of_lt_mul (by omega), by omega, ?_⟩
  rw [val_snoc, hp, val_take_getD, hX]
  have p := pow_split k (X * 2 ^ r + c)
  rw [Nat.mul_add _ (X * 2 ^ r) c] at p
  rw [Nat.add_mul, Nat.mul_assoc]
  omega
set_option maxRecDepth 20000 in
set_option maxHeartbeats 2000000 in
theorem rshift_up (A : Option Addr) (c : Nat) (l : List Nat) (s : Nat) (w : World) (h : SlW w A c l) (hl : l.length ≤ 1000000000) (hs : s ≤ 1000000000) :
    Calls Try.prog 72 #[.slice A l.length c, .int .i64 (s : Int)] w (RNat (val l * 2 ^ s) w) := by
  refine calls_b fun g => ?_
  obtain ⟨n1, hn1⟩ : ∃ n : Nat, l.length = n := ⟨_, rfl⟩
  obtain ⟨q, hq⟩ : ∃ q : Nat, s / 32 = q := ⟨_, rfl⟩
  obtain ⟨r, hr⟩ : ∃ r : Nat, s % 32 = r := ⟨_, rfl⟩
  have hr32 : r < 32 := by omega
  have hq9 : q ≤ 1000000000 := by omega
  have hqi : Int.tdiv (s : Int) 32 = (q : Int) := by rw [Int.tdiv_eq_ediv_of_nonneg (by omega)]; omega
  have hri : Int.tmod (s : Int) 32 = (r : Int) := by rw [Int.tmod_eq_emod_of_nonneg (by omega)]; omega
  have hpow : 4294967296 ^ q * 2 ^ r = 2 ^ s := by rw [pow32, ← Nat.pow_add]; congr 1; omega
  have HP := Lib.hid hpow
  have hs0 : ¬ ((s : Int) < 0) := by omega
  rw [hn1]
  have HN1 := Lib.hid hn1
  have hn9 : n1 ≤ 1000000000 := by omega
  have hmk := fun w => make_nat q (by omega) w
  have HZ : Hid (Row 30 1 q (u32s (List.replicate q 0)) q (u32s (List.replicate q 0))) := Lib.hid ⟨Nat.le_refl _, by show q ≤ 9223372036854775807; omega, by rw [u32s_len, List.length_replicate, Nat.mul_one], by rw [Nat.mul_one, List.take_of_length_le (by rw [u32s_len, List.length_replicate]; exact Nat.le_refl _)], by rw [u32s_len, List.length_replicate, Nat.mul_one]⟩
  obtain ⟨i0, hi, hzz0, hzz1, hzz2⟩ := info_parts infoU32
  have hc0 : Hid ((0 : Nat) < 2 ^ r) := Lib.hid (Nat.two_pow_pos r)
  clear hn1 hq hr hpow hl
  generalize (s : Int) = si at *
  go_enter Try.func72, Try.ntmps72
  go_wp2_with (with_reducible refine G.any_mark _ ?_; (try generalize Array.size (World.heap (G.w _)) = bk); (try dsimp only [List.set_cons_zero, List.set_cons_succ]); (try clear g); intro g)
  obtain ⟨zb, rfl⟩ : ∃ zb : Nat, zb = bk := ⟨_, rfl⟩
  have hzb : w.heap.size ≤ zb := g.fresh (List.mem_cons_self ..)
  go_loopg [7, 8, 9] n1 (fun gk s7 s8 s9 wr => ∃ (k c : Nat) (pre : List Nat) (b cap : Nat) (cs : List Value), k + gk = n1 ∧ s8 = .int .u64 (c : Int) ∧ s9 = .int .i64 (k : Int) ∧ c < 4294967296 ∧ Hid (c < 2 ^ r ∧ pre.length = k ∧ Ok pre ∧ val pre + 4294967296 ^ k * c = val (l.take k) * 2 ^ r) ∧ s7 = .slice (some ⟨b, 0, none⟩) (q + k) cap ∧ Row 30 1 (q + k) (u32s (List.replicate q 0 ++ pre)) cap cs ∧ w.heap.size ≤ b ∧ ∃ g : G w [] [(b, 30, cs)] [heapOf w], wr = g.w)
  case atStart => exact ⟨0, 0, [], zb, q, _, by omega, rfl, rfl, by omega, ⟨hc0.out, rfl, Ok.nil, by simp [val]⟩, rfl, by rw [List.append_nil]; exact HZ.out, hzb, g, rfl⟩
  case round =>
    clear g hmk HZ hzb
    obtain ⟨k, c, pre, b', cap, cs, hkg, rfl, rfl, hc9, HI, rfl, hrow, hb, g, rfl⟩ := hrel
    have hr0 : ¬ ((r : Int) < 0) := by omega
    have hr1 : (0 : Int) ≤ (r : Int) := by omega
    by_cases hk : k < n1
    · obtain ⟨b, o, rfl, hcell⟩ := lim_cells h.lim (by rw [HN1.out]; omega)
      have e0 := hcell k (by rw [HN1.out]; omega) _ _ _ _ g (by simp)
      clear hcell
      have hX := h.ok.getD k
      have hun := up_next (l := l) HI.out.2.1 hr32 HI.out.1 rfl hX HI.out.2.2.2
      have hdis : bits .or .u64 (c : Int) ((l.getD k 0 * 2 ^ r : Nat) : Int) = ((l.getD k 0 * 2 ^ r + c : Nat) : Int) := K3.or64_add _ _ r (by omega) HI.out.1 (by omega) (Nat.mul_mod_left _ _)
      have hlt2 : l.getD k 0 * 2 ^ r < 18446744073709551616 := by omega
      have hpo := HI.out.2.2.1
      have hpl := HI.out.2.1
      generalize l.getD k 0 = X at *
      have hsh : IntKind.u64.wrap ((X : Int) * 2 ^ r) = ((X * 2 ^ r : Nat) : Int) := by
        rw [show (X : Int) * 2 ^ r = ((X * 2 ^ r : Nat) : Int) by rw [Int.natCast_mul, Int.natCast_pow]; rfl, IntKind.wrap_u64]
        omega
      have hwX : IntKind.u64.wrap (X : Int) = (X : Int) := by rw [IntKind.wrap_u64]; omega
      generalize X * 2 ^ r = y at *
      obtain ⟨t, ht⟩ : ∃ t, y + c = t := ⟨_, rfl⟩
      rw [ht] at hun hdis
      obtain ⟨lo, hlo⟩ : ∃ lo, t % 4294967296 = lo := ⟨_, rfl⟩
      obtain ⟨hi', hhi⟩ : ∃ hi', t / 4294967296 = hi' := ⟨_, rfl⟩
      have ht9 := hun.2.1
      have f5 : IntKind.u32.wrap (t : Int) = (lo : Int) := by rw [IntKind.wrap_u32]; omega
      have f6 : (t : Int) / 4294967296 = (hi' : Int) := by omega
      have hlo9 : lo < 4294967296 := by omega
      have hhi9 : hi' < 4294967296 := by omega
      rw [hlo, hhi] at hun
      have HI2 : Hid (hi' < 2 ^ r ∧ (pre ++ [lo]).length = k + 1 ∧ Ok (pre ++ [lo]) ∧ val (pre ++ [lo]) + 4294967296 ^ (k + 1) * hi' = val (l.take (k + 1)) * 2 ^ r) := Lib.hid ⟨hun.1, by rw [List.length_append, hpl]; rfl, hpo.append (Ok.cons hlo9 Ok.nil), hun.2.2⟩
      have H1 : ∀ u ∈ [Value.int .u32 (lo : Int)], u.oneCell' = true := by intro u hu; rw [List.mem_singleton.1 hu]; rfl
      have H2 : q + k + 1 ≤ maxLen := by show q + k + 1 ≤ 9223372036854775807; omega
      have H3 : (q + k + 1) * 4 ≤ 140737488355328 := by omega
      have HAP : Hid (u32s (List.replicate q 0 ++ (pre ++ [lo])) = u32s (List.replicate q 0 ++ pre) ++ [.int .u32 (lo : Int)]) := Lib.hid (by rw [← List.append_assoc, u32s_append]; rfl)
      have hki : (k : Int) < (n1 : Int) := by omega
      have hgk : 0 < gk := by omega
      have hkg2 : k + 1 + (gk - 1) = n1 := by omega
      clear hun ht hlo hhi hlt2 hX HI hpl
      go_wp2_with (first | (with_reducible refine G.any_mark _ ?_; (try generalize Array.size (World.heap (G.w _)) = bk); (try dsimp only [List.set_cons_zero, List.set_cons_succ]); (try clear g); intro g) | (at_builtin; refine wpList_append_lit rfl _ _ 24 rfl 30 i0 _ 1 4 Try.underlying24 hi hzz0 hzz1 hzz2 rfl (by decide) g hrow hb rfl 1 rfl rfl H1 (by decide) H2 H3 ?_; clear hb hrow g e0; intro b' cap cs g hb hrow))
      go_roundg (gk - 1)
      case measure => omega
      case rel => exact ⟨k + 1, hi', pre ++ [lo], b', cap, cs, hkg2, rfl, by go_num, hhi9, HI2, rfl, by rw [HAP.out]; exact hrow, hb, g, rfl⟩
    · obtain rfl : k = n1 := by omega
      have hpl := HI.out.2.1
      have heq := HI.out.2.2.2
      rw [val_take_all (by rw [HN1.out]; exact Nat.le_refl _)] at heq
      have hL : (List.replicate q 0 ++ (pre ++ [c])).length = q + k + 1 := by rw [List.length_append, List.length_append, List.length_replicate, hpl]; rfl
      have hV : val (List.replicate q 0 ++ (pre ++ [c])) = val l * 2 ^ s := by
        rw [val_append, val_zeros, val_snoc, hpl, heq, List.length_replicate, Nat.zero_add, ← HP.out, Nat.mul_left_comm]
      have hO : Ok (List.replicate q 0 ++ (pre ++ [c])) := (Ok.zeros q).append (HI.out.2.2.1.append (Ok.cons hc9 Ok.nil))
      have HAP : Hid (u32s (List.replicate q 0 ++ (pre ++ [c])) = u32s (List.replicate q 0 ++ pre) ++ [.int .u32 (c : Int)]) := Lib.hid (by rw [← List.append_assoc, u32s_append]; rfl)
      generalize List.replicate q 0 ++ (pre ++ [c]) = L at *
      have CT1 := Lib.hid (fun A cap w h => rtrim_any A cap L w h)
      rw [hL] at CT1
      have HL := Lib.hid hL
      have HV := Lib.hid hV
      have H1 : ∀ u ∈ [Value.int .u32 (c : Int)], u.oneCell' = true := by intro u hu; rw [List.mem_singleton.1 hu]; rfl
      have H2 : q + k + 1 ≤ maxLen := by show q + k + 1 ≤ 9223372036854775807; omega
      have H3 : (q + k + 1) * 4 ≤ 140737488355328 := by omega
      have f5 : IntKind.u32.wrap (c : Int) = (c : Int) := by rw [IntKind.wrap_u32]; omega
      have hki : ¬ ((k : Int) < (k : Int)) := by omega
      clear hL hV heq hpl HI
      go_wp2_with (first | (with_reducible refine G.any_mark _ ?_; (try generalize Array.size (World.heap (G.w _)) = bk); (try dsimp only [List.set_cons_zero, List.set_cons_succ]); (try clear g); intro g) | (at_builtin; refine wpList_append_lit rfl _ _ 24 rfl 30 i0 _ 1 4 Try.underlying24 hi hzz0 hzz1 hzz2 rfl (by decide) g hrow hb rfl 1 rfl rfl H1 (by decide) H2 H3 ?_; clear hb hrow g; intro b' cap cs g hb hrow))
      rw [← HAP.out] at hrow
      have hsl : SlW g.w (some ⟨b', 0, none⟩) cap L := (sl_row hrow HL.out (by omega) hO).at (blkF_sub g.blk0)
      have hsr := Lib.hid (sl_trim (sl_row (b := b') hrow HL.out (by omega) hO))
      refine (CT1.out _ _ _ hsl).mono ?_
      rintro e w1 ⟨rfl, hb⟩
      obtain ⟨g1, rfl⟩ := G.call_ex _ hb
      clear hb
      (try clear g)
      revert g1
      intro g
      clear hsl
      go_wp2_with (with_reducible refine G.any_mark _ ?_; (try generalize Array.size (World.heap (G.w _)) = bk); (try dsimp only [List.set_cons_zero, List.set_cons_succ]); (try clear g); intro g)
      go_ret
      refine ⟨_, cap, _, ret_slice (by rw [HV.out]), ?_, g.give (List.mem_cons_self ..)⟩
      rw [← HV.out]
      exact hsr.out
end Go.Proofs.Ytfifcpgjcgoinaa
namespace Go.Proofs.Ytfifcpgjcgoinaa
open Go.RowKit GW NL
set_option maxRecDepth 20000 in
set_option maxHeartbeats 2000000 in
theorem rshift_down (A : Option Addr) (c : Nat) (l : List Nat) (m : Nat) (N : Int) (w : World) (h : SlW w A c l) (hl : l.length ≤ 1000000000) (hN : -N = (m : Int)) (hm0 : N < 0) (hm : m ≤ 1000000000) :
    Calls Try.prog 72 #[.slice A l.length c, .int .i64 N] w (RNat (val l / 2 ^ m) w) := by
  refine calls_b fun g => ?_
  obtain ⟨n1, hn1⟩ : ∃ n : Nat, l.length = n := ⟨_, rfl⟩
  obtain ⟨q, hq⟩ : ∃ q : Nat, m / 32 = q := ⟨_, rfl⟩
  obtain ⟨r, hr⟩ : ∃ r : Nat, m % 32 = r := ⟨_, rfl⟩
  have hr32 : r < 32 := by omega
  have hqi : Int.tdiv (m : Int) 32 = (q : Int) := by rw [Int.tdiv_eq_ediv_of_nonneg (by omega)]; omega
  have hri : Int.tmod (m : Int) 32 = (r : Int) := by rw [Int.tmod_eq_emod_of_nonneg (by omega)]; omega
  have hZ := Lib.hid (down_zero (m := m) h.ok)
  have hD : Hid (val l / 2 ^ m = val (l.drop q) / 2 ^ r) := Lib.hid (by rw [div_pow_split, hq, hr, val_div l h.ok])
  have hmx := h.len
  have hmxx := h.max
  have hcp := h.cap
  have hq9 : q ≤ 1000000000 := by omega
  by_cases hqn : l.length ≤ q
  · have hz := hZ.out (by omega)
    rw [hz]
    clear hZ hD
    rw [hn1] at hqn ⊢
    have hn1' : n1 ≤ 140737488355328 := by omega
    clear hn1 hq hr
    have hm' : (m : Int) ≤ 1000000000 := by omega
    generalize (m : Int) = mi at *
    go_enter Try.func72, Try.ntmps72
    go_wp2_with (with_reducible refine G.any_mark _ ?_; (try generalize Array.size (World.heap (G.w _)) = bk); (try dsimp only [List.set_cons_zero, List.set_cons_succ]); (try clear g); intro g)
    go_ret
    exact ⟨none, 0, _, by simp only [limbs_zero]; rfl, by simp only [limbs_zero]; exact Frag.Sl.nil _ _, g.none⟩
  · obtain ⟨n, hn⟩ : ∃ n : Nat, n1 - q = n := ⟨_, rfl⟩
    have hqn' : q < n1 := by omega
    have HQ3 : decide (n1 ≤ q) = false := by rw [decide_eq_false_iff_not]; omega
    have hqni : ¬ ((n1 : Int) ≤ (q : Int)) := by omega
    have hmk : ∀ w, (Instr.makeSlice 24 (.int .i64 (n : Int)) (.int .i64 (n : Int))).run Try.prog w = .ok (.slice (some ⟨w.heap.size, 0, none⟩) n n) (w.alloc (.cells (u32s (List.replicate n 0)).toArray 30)) := fun w => make_nat n (by omega) w
    obtain ⟨b, o, rfl, _⟩ := lim_cells h.lim (by omega)
    have hld := sl_drop h q (by omega)
    have hok := h.ok
    obtain ⟨l', hl'⟩ : ∃ l', l.drop q = l' := ⟨_, rfl⟩
    rw [hl'] at hld hD
    have hll : l'.length = n := by rw [← hl', List.length_drop]; omega
    have hok' : Ok l' := by rw [← hl']; exact hok.drop q
    have HLL := Lib.hid hll
    have ha1 : l'.length ≤ n := by omega
    have ha2 : n ≤ l'.length := by omega
    have hsubn : n1 - q = n := hn
    have hn' : n ≤ 1000000000 := by omega
    rw [hn1]
    have hn1' : n1 ≤ 1000000000 := by omega
    have hcq : (q : Int) ≤ (n1 : Int) := by omega
    have hcq2 : n1 ≤ c := by omega
    have CLL := Lib.hid (fun k (hk : k ≤ 1000000001) w h => rlimb_any (some ⟨b, o + q, none⟩) (c - q) l' k w h (by omega))
    rw [hll] at CLL
    clear hn1 hq hr hZ hn hqn hl hl' hll
    have hm' : (m : Int) ≤ 1000000000 := by omega
    rw [hD.out]
    clear hm hD
    generalize (m : Int) = mi at *
    go_enter Try.func72, Try.ntmps72
    go_wp2_with (with_reducible refine G.any_mark _ ?_; (try generalize Array.size (World.heap (G.w _)) = bk); (try dsimp only [List.set_cons_zero, List.set_cons_succ]); (try clear g); intro g)
    go_loopg [6] n (fun gk i wr => ∃ (k : Nat) (pre : List Nat), k + gk = n ∧ i = .int .i64 k ∧ Hid (pre.length = k ∧ Ok pre ∧ val pre = val l' / 2 ^ r % 4294967296 ^ k) ∧ ∃ g : G w [] [(bk, 30, u32s (pre ++ List.replicate (n - k) 0))] [heapOf w], wr = g.w)
    case atStart => exact ⟨0, [], by omega, rfl, ⟨rfl, Ok.nil, by simp [val, Nat.mod_one]⟩, g, rfl⟩
    case round =>
      clear g hmk
      obtain ⟨k, pre, hkg, rfl, HI, g, rfl⟩ := hrel
      by_cases hk2 : k < n
      · have hx := hok'.getD k
        have hy := hok'.getD (k + 1)
        have hpl := u32s_zero_at HI.out.1 hk2
        have dl := down_limb hok' k r hr32
        have st := Lib.hid (low_step HI.out.1 HI.out.2.2 dl)
        have hq := Lib.hid (set_zeros' HI.out.1 hk2 ((l'.getD k 0 + 4294967296 * l'.getD (k + 1) 0) / 2 ^ r % 4294967296))
        have CL1 := Lib.hid (CLL.out k (by omega))
        have CL2 := Lib.hid (CLL.out (k + 1) (by omega))
        have hr : (l'.getD k 0 + 4294967296 * l'.getD (k + 1) 0) / 2 ^ r % 4294967296 < 4294967296 := Nat.mod_lt _ (by decide)
        clear dl
        generalize l'.getD k 0 = x at *
        generalize l'.getD (k + 1) 0 = y at *
        obtain ⟨t, htt⟩ : ∃ t, x + 4294967296 * y = t := ⟨_, rfl⟩
        have hor : bits .or .u64 (x : Int) ((y : Int) * 4294967296) = (t : Int) := by
          rw [show (y : Int) * 4294967296 = ((4294967296 * y : Nat) : Int) by omega, K3.or64_add _ _ 32 (by omega) (by omega) (by omega) (by omega)]
          omega
        have ht : t < 18446744073709551616 := by omega
        rw [htt] at st hq hr
        obtain ⟨z, hz⟩ : ∃ z, t / 2 ^ r % 4294967296 = z := ⟨_, rfl⟩
        rw [hz] at st hq hr
        have HE : Hid (bits .or .u64 (x : Int) ((y : Int) * 4294967296) / 2 ^ r % 4294967296 = (z : Int)) := Lib.hid (by
          rw [hor, ← hz, show (t : Int) / 2 ^ r = ((t / 2 ^ r : Nat) : Int) by rw [Int.natCast_ediv, Int.natCast_pow]; rfl]
          omega)
        clear hz hor ht htt
        have hpr : (pre ++ [z]).length = k + 1 := by rw [List.length_append, HI.out.1]; rfl
        have HI2 : Hid ((pre ++ [z]).length = k + 1 ∧ Ok (pre ++ [z]) ∧ val (pre ++ [z]) = val l' / 2 ^ r % 4294967296 ^ (k + 1)) := Lib.hid ⟨hpr, HI.out.2.1.append (Ok.cons hr Ok.nil), st.out⟩
        have hkn : (k : Int) < (n : Int) := by omega
        have hk1 : IntKind.i64.wrap ((k : Int) + 1) = (k : Int) + 1 := by rw [IntKind.wrap_i64]; omega
        have hc1 : ((k + 1 : Nat) : Int) = (k : Int) + 1 := by omega
        rw [hc1] at CL2
        have hr0 : ¬ ((r : Int) < 0) := by omega
        have hr1 : (0 : Int) ≤ (r : Int) := by omega
        have hgk : 0 < gk := by omega
        clear hpr hc1
        go_wp2_with (with_reducible refine G.any_mark _ ?_; (try generalize Array.size (World.heap (G.w _)) = bk); (try dsimp only [List.set_cons_zero, List.set_cons_succ]); (try clear g); intro g)
        refine (CL1.out _ (G.sl g (by simp) hld)).mono ?_
        rintro e w1 ⟨rfl, rfl⟩
        go_wp2_with (with_reducible refine G.any_mark _ ?_; (try generalize Array.size (World.heap (G.w _)) = bk); (try dsimp only [List.set_cons_zero, List.set_cons_succ]); (try clear g); intro g)
        refine (CL2.out _ (G.sl g (by simp) hld)).mono ?_
        rintro e w1 ⟨rfl, rfl⟩
        go_wp2_with (with_reducible refine G.any_mark _ ?_; (try generalize Array.size (World.heap (G.w _)) = bk); (try dsimp only [List.set_cons_zero, List.set_cons_succ]); (try clear g); intro g)
        obtain ⟨g2, hg2⟩ := g.as (by rw [HE.out, u32s_set, hq.out])
        go_roundg (gk - 1)
        case measure => omega
        case rel => exact ⟨k + 1, pre ++ [z], by omega, by go_num, HI2, g2, hg2⟩
      · obtain rfl : k = n := by omega
        have e1 := down_end hok' (n := k) (by omega) HI.out.2.2
        obtain ⟨g2, hg2⟩ := g.as (M' := [(bk, 30, u32s pre)]) (by rw [Nat.sub_self, List.replicate_zero, List.append_nil])
        rw [hg2]
        clear hg2 g
        revert g2
        intro g
        have E1 := Lib.hid e1
        clear e1
        have hp := HI.out.1
        have hok2 := HI.out.2.1
        have hkn : ¬ ((k : Int) < (k : Int)) := by omega
        clear HI HLL
        subst hp
        have hsl : SlW g.w (some ⟨bk, 0, none⟩) pre.length pre := (sl_blk (Nat.le_refl _) (by omega) hok2).at (blkF_sub g.blk0)
        go_wp2_with (with_reducible refine G.any_mark _ ?_; (try generalize Array.size (World.heap (G.w _)) = bk); (try dsimp only [List.set_cons_zero, List.set_cons_succ]); (try clear g); intro g)
        refine (rtrim_any _ _ pre _ hsl).mono ?_
        rintro e w1 ⟨rfl, hb⟩
        obtain ⟨g1, rfl⟩ := G.call_ex _ hb
        clear hb hsl g
        revert g1
        intro g
        go_wp2_with (with_reducible refine G.any_mark _ ?_; (try generalize Array.size (World.heap (G.w _)) = bk); (try dsimp only [List.set_cons_zero, List.set_cons_succ]); (try clear g); intro g)
        go_ret
        exact rnat_end g (List.mem_cons_self ..) hok2 (Nat.le_refl _) (by omega) E1.out
end Go.Proofs.Ytfifcpgjcgoinaa
namespace Go.Proofs.Ytfifcpgjcgoinaa
open Go.RowKit GW NL
theorem rShift_err (A : Option Addr) (c : Nat) (l : List Nat) (n : Int) (w : World) (h : SlW w A c l) (hx : chk l ≠ 0) :
    Calls Try.prog 37 #[.slice A l.length c, .int .i64 n] w (RNE (0, chk l) w) := by
  refine calls_b fun g => ?_
  have C1 := Lib.hid (fun w h => rcheck_any A c l w h)
  have hx' : (chk l == 0) = false := by simpa using hx
  clear hx
  generalize chk l = r at *
  generalize l.length = k at *
  go_enter Try.func37, Try.ntmps37
  go_wp2_with (with_reducible refine G.any_mark _ ?_; (try generalize Array.size (World.heap (G.w _)) = bk); (try dsimp only [List.set_cons_zero, List.set_cons_succ]); (try clear g); intro g)
  refine (C1.out _ (G.sl g (by simp) h)).mono ?_
  rintro e w1 ⟨rfl, hb⟩
  obtain ⟨g1, rfl⟩ := G.call_ex _ hb
  clear hb
  (try clear g)
  revert g1
  intro g
  go_wp2_with (with_reducible refine G.any_mark _ ?_; (try generalize Array.size (World.heap (G.w _)) = bk); (try dsimp only [List.set_cons_zero, List.set_cons_succ]); (try clear g); intro g)
  go_ret2
  exact rne_err g r
theorem rShift_range (A : Option Addr) (c : Nat) (l : List Nat) (n : Int) (w : World) (h : SlW w A c l) (hx : chk l = 0) (hn : n < -10000 ∨ 10000 < n) :
    Calls Try.prog 37 #[.slice A l.length c, .int .i64 n] w (RNE (0, 2) w) := by
  refine calls_b fun g => ?_
  have C1 := Lib.hid (fun w h => rcheck_any A c l w h)
  rw [hx] at C1
  clear hx
  generalize l.length = k at *
  rcases Decidable.em (n < -10000) with h1 | h1
  · clear hn
    have h1' : decide (n < -10000) = true := decide_eq_true h1
    clear h1
    go_enter Try.func37, Try.ntmps37
    go_wp2_with (with_reducible refine G.any_mark _ ?_; (try generalize Array.size (World.heap (G.w _)) = bk); (try dsimp only [List.set_cons_zero, List.set_cons_succ]); (try clear g); intro g)
    refine (C1.out _ (G.sl g (by simp) h)).mono ?_
    rintro e w1 ⟨rfl, hb⟩
    obtain ⟨g1, rfl⟩ := G.call_ex _ hb
    clear hb
    (try clear g)
    revert g1
    intro g
    go_wp2_with (with_reducible refine G.any_mark _ ?_; (try generalize Array.size (World.heap (G.w _)) = bk); (try dsimp only [List.set_cons_zero, List.set_cons_succ]); (try clear g); intro g)
    go_ret2
    exact rne_err g 2
  · have h2 : 10000 < n := by omega
    have h1' : decide (n < -10000) = false := decide_eq_false h1
    clear h1 hn
    go_enter Try.func37, Try.ntmps37
    go_wp2_with (with_reducible refine G.any_mark _ ?_; (try generalize Array.size (World.heap (G.w _)) = bk); (try dsimp only [List.set_cons_zero, List.set_cons_succ]); (try clear g); intro g)
    refine (C1.out _ (G.sl g (by simp) h)).mono ?_
    rintro e w1 ⟨rfl, hb⟩
    obtain ⟨g1, rfl⟩ := G.call_ex _ hb
    clear hb
    (try clear g)
    revert g1
    intro g
    go_wp2_with (with_reducible refine G.any_mark _ ?_; (try generalize Array.size (World.heap (G.w _)) = bk); (try dsimp only [List.set_cons_zero, List.set_cons_succ]); (try clear g); intro g)
    go_ret2
    exact rne_err g 2
theorem rShift_core (A : Option Addr) (c v : Nat) (n : Int) (R : Nat) (w : World) (h : SlW w A c (limbs v)) (hv : v < 2 ^ 8192) (hn1 : -10000 ≤ n) (hn2 : n ≤ 10000)
    (CS : ∀ w, SlW w A c (limbs v) → Calls Try.prog 72 #[.slice A (limbs v).length c, .int .i64 n] w (RNat R w)) :
    Calls Try.prog 37 #[.slice A (limbs v).length c, .int .i64 n] w (RNE (outN 0 R) w) := by
  refine calls_b fun g => ?_
  have C1 := Lib.hid (fun w h => rcheck_any A c (limbs v) w h)
  rw [chk_limbs hv] at C1
  have CS := Lib.hid CS
  have CY := Lib.hid (fun A c w h hv => rfits_yes A c R w h hv)
  have CN := Lib.hid (fun A c w h hv => rfits_no A c R w h hv)
  have h1' : decide (n < -10000) = false := decide_eq_false (by omega)
  have h2' : decide (10000 < n) = false := decide_eq_false (by omega)
  have h3 : ¬ (n < -10000) := by omega
  have h4 : ¬ (10000 < n) := by omega
  clear hv hn1 hn2
  generalize (limbs v).length = k at *
  rcases Decidable.em (R < 2 ^ 8192) with hR | hR
  · have hO : outN 0 R = (R, 0) := by unfold outN; rw [if_neg (by simp), if_pos hR]
    rw [hO]
    have HR := Lib.hid hR
    clear hO hR
    go_enter Try.func37, Try.ntmps37
    go_wp2_with (with_reducible refine G.any_mark _ ?_; (try generalize Array.size (World.heap (G.w _)) = bk); (try dsimp only [List.set_cons_zero, List.set_cons_succ]); (try clear g); intro g)
    refine (C1.out _ (G.sl g (by simp) h)).mono ?_
    rintro e w1 ⟨rfl, hb⟩
    obtain ⟨g1, rfl⟩ := G.call_ex _ hb
    clear hb
    (try clear g)
    revert g1
    intro g
    go_wp2_with (with_reducible refine G.any_mark _ ?_; (try generalize Array.size (World.heap (G.w _)) = bk); (try dsimp only [List.set_cons_zero, List.set_cons_succ]); (try clear g); intro g)
    refine (CS.out _ (G.sl g (by simp) h)).mono ?_
    rintro e w1 ⟨Ax, cx, Fx, rfl, hsx, hn⟩
    have hnnx := fun k o hk => Nat.le_trans g.chg.size (hn.new k o hk)
    obtain ⟨g1, rfl⟩ := G.new_ex _ hn
    clear hn
    (try clear g)
    revert g1
    intro g
    go_wp2_with (with_reducible refine G.any_mark _ ?_; (try generalize Array.size (World.heap (G.w _)) = bk); (try dsimp only [List.set_cons_zero, List.set_cons_succ]); (try clear g); intro g)
    refine (CY.out _ _ _ (G.sl g (by simp) hsx) HR.out).mono ?_
    rintro e w1 ⟨rfl, hb⟩
    obtain ⟨g1, rfl⟩ := G.call_ex _ hb
    clear hb
    (try clear g)
    revert g1
    intro g
    go_wp2_with (with_reducible refine G.any_mark _ ?_; (try generalize Array.size (World.heap (G.w _)) = bk); (try dsimp only [List.set_cons_zero, List.set_cons_succ]); (try clear g); intro g)
    go_ret2
    exact rne_pass g hsx (by simp) hnnx 0
  · have hO : outN 0 R = (0, 5) := by unfold outN; rw [if_neg (by simp), if_neg hR]
    rw [hO]
    have HR := Lib.hid hR
    clear hO hR
    go_enter Try.func37, Try.ntmps37
    go_wp2_with (with_reducible refine G.any_mark _ ?_; (try generalize Array.size (World.heap (G.w _)) = bk); (try dsimp only [List.set_cons_zero, List.set_cons_succ]); (try clear g); intro g)
    refine (C1.out _ (G.sl g (by simp) h)).mono ?_
    rintro e w1 ⟨rfl, hb⟩
    obtain ⟨g1, rfl⟩ := G.call_ex _ hb
    clear hb
    (try clear g)
    revert g1
    intro g
    go_wp2_with (with_reducible refine G.any_mark _ ?_; (try generalize Array.size (World.heap (G.w _)) = bk); (try dsimp only [List.set_cons_zero, List.set_cons_succ]); (try clear g); intro g)
    refine (CS.out _ (G.sl g (by simp) h)).mono ?_
    rintro e w1 ⟨Ax, cx, Fx, rfl, hsx, hn⟩
    have hnnx := fun k o hk => Nat.le_trans g.chg.size (hn.new k o hk)
    obtain ⟨g1, rfl⟩ := G.new_ex _ hn
    clear hn
    (try clear g)
    revert g1
    intro g
    go_wp2_with (with_reducible refine G.any_mark _ ?_; (try generalize Array.size (World.heap (G.w _)) = bk); (try dsimp only [List.set_cons_zero, List.set_cons_succ]); (try clear g); intro g)
    refine (CN.out _ _ _ (G.sl g (by simp) hsx) HR.out).mono ?_
    rintro e w1 ⟨rfl, hb⟩
    obtain ⟨g1, rfl⟩ := G.call_ex _ hb
    clear hb
    (try clear g)
    revert g1
    intro g
    go_wp2_with (with_reducible refine G.any_mark _ ?_; (try generalize Array.size (World.heap (G.w _)) = bk); (try dsimp only [List.set_cons_zero, List.set_cons_succ]); (try clear g); intro g)
    go_ret2
    exact rne_err g 5
theorem rShift_up (A : Option Addr) (c v s : Nat) (w : World) (h : SlW w A c (limbs v)) (hv : v < 2 ^ 8192) (hs : s ≤ 10000) :
    Calls Try.prog 37 #[.slice A (limbs v).length c, .int .i64 (s : Int)] w (RNE (outN 0 (v * 2 ^ s)) w) := by
  have hl : (limbs v).length ≤ 256 := (limbs_len v 256).2 (by rw [pow32]; exact hv)
  refine rShift_core A c v s (v * 2 ^ s) w h hv (by omega) (by omega) fun w h => ?_
  have := rshift_up A c (limbs v) s w h (by omega) (by omega)
  rwa [val_limbs] at this
theorem rShift_down (A : Option Addr) (c v s : Nat) (w : World) (h : SlW w A c (limbs v)) (hv : v < 2 ^ 8192) (hs : s ≤ 10000) :
    Calls Try.prog 37 #[.slice A (limbs v).length c, .int .i64 (-(s : Int))] w (RNE (v / 2 ^ s, 0) w) := by
  have hl : (limbs v).length ≤ 256 := (limbs_len v 256).2 (by rw [pow32]; exact hv)
  have key := rShift_core A c v (-(s : Int)) (v / 2 ^ s) w h hv (by omega) (by omega) fun w h => by
    by_cases h0 : s = 0
    · subst h0
      have := rshift_up A c (limbs v) 0 w h (by omega) (by omega)
      rw [val_limbs] at this
      simpa using this
    · have := rshift_down A c (limbs v) s (-(s : Int)) w h (by omega) (by omega) (by omega) (by omega)
      rwa [val_limbs] at this
  have hO : outN 0 (v / 2 ^ s) = (v / 2 ^ s, 0) := by unfold outN; rw [if_neg (by simp), if_pos (Nat.lt_of_le_of_lt (Nat.div_le_self _ _) hv)]
  rwa [hO] at key
theorem rShift_any (A : Option Addr) (c : Nat) (l : List Nat) (n : Int) (w : World) (h : SlW w A c l) :
    Calls Try.prog 37 #[.slice A l.length c, .int .i64 n] w (RNE (outH (chk l) (val l) n) w) := by
  unfold outH
  by_cases hx : chk l = 0
  · rw [if_neg (by simpa using hx)]
    by_cases hn : n < -10000 ∨ 10000 < n
    · rw [if_pos hn]
      exact rShift_range A c l n w h hx hn
    · rw [if_neg hn]
      obtain ⟨e1, b1, _⟩ := chk_ok h.ok hx
      by_cases h0 : n < 0
      · rw [if_pos h0]
        have := rShift_down A c (val l) n.natAbs w (by rw [← e1]; exact h) b1 (by omega)
        rw [← e1, show (-(n.natAbs : Int)) = n by omega] at this
        exact this
      · rw [if_neg h0]
        have := rShift_up A c (val l) n.natAbs w (by rw [← e1]; exact h) b1 (by omega)
        rw [← e1, show ((n.natAbs : Nat) : Int) = n by omega] at this
        exact this
  · rw [if_pos hx]
    exact rShift_err A c l n w h hx
set_option maxRecDepth 20000 in
theorem rAdd_any (A1 A2 : Option Addr) (c1 c2 : Nat) (l1 l2 : List Nat) (w : World) (h1 : SlW w A1 c1 l1) (h2 : SlW w A2 c2 l2) :
    Calls Try.prog 34 #[.slice A1 l1.length c1, .slice A2 l2.length c2] w (RNE (outN (chk2 l1 l2) (val l1 + val l2)) w) := by
  refine calls_b fun g => ?_
  have CK := Lib.hid (fun w h1 h2 => both_any A1 A2 c1 c2 l1 l2 w h1 h2)
  by_cases hx : chk2 l1 l2 = 0
  · obtain ⟨k1, k2⟩ := chk2_ok hx
    obtain ⟨e1, b1, n1'⟩ := chk_ok h1.ok k1
    obtain ⟨e2, b2, n2'⟩ := chk_ok h2.ok k2
    have CA := Lib.hid (fun w h1 h2 => radd_any A1 A2 c1 c2 (val l1) (val l2) w h1 h2 (by rw [← e1]; omega) (by rw [← e2]; omega))
    rw [← e1, ← e2] at CA
    have CY := Lib.hid (fun A c w h hv => rfits_yes A c (val l1 + val l2) w h hv)
    have CN := Lib.hid (fun A c w h hv => rfits_no A c (val l1 + val l2) w h hv)
    rw [hx] at CK ⊢
    clear hx k1 k2 e1 e2 b1 b2 n1' n2'
    generalize val l1 + val l2 = v at *
    generalize l1.length = n1 at *
    generalize l2.length = n2 at *
    rcases Decidable.em (v < 2 ^ 8192) with hv | hv
    · have hO : outN 0 v = (v, 0) := by unfold outN; rw [if_neg (by simp), if_pos hv]
      rw [hO]
      have HV := Lib.hid hv
      clear hO hv
      go_enter Try.func34, Try.ntmps34
      go_wp2_with (with_reducible refine G.any_mark _ ?_; (try generalize Array.size (World.heap (G.w _)) = bk); (try dsimp only [List.set_cons_zero, List.set_cons_succ]); (try clear g); intro g)
      refine (CK.out _ (G.sl g (by simp) h1) (G.sl g (by simp) h2)).mono ?_
      rintro e w1 ⟨rfl, hb⟩
      obtain ⟨g1, rfl⟩ := G.call_ex _ hb
      clear hb
      (try clear g)
      revert g1
      intro g
      go_wp2_with (with_reducible refine G.any_mark _ ?_; (try generalize Array.size (World.heap (G.w _)) = bk); (try dsimp only [List.set_cons_zero, List.set_cons_succ]); (try clear g); intro g)
      refine (CA.out _ (G.sl g (by simp) h1) (G.sl g (by simp) h2)).mono ?_
      rintro e w1 ⟨Ax, cx, Fx, rfl, hsx, hn⟩
      have hnnx := fun k o hk => Nat.le_trans g.chg.size (hn.new k o hk)
      obtain ⟨g1, rfl⟩ := G.new_ex _ hn
      clear hn
      (try clear g)
      revert g1
      intro g
      go_wp2_with (with_reducible refine G.any_mark _ ?_; (try generalize Array.size (World.heap (G.w _)) = bk); (try dsimp only [List.set_cons_zero, List.set_cons_succ]); (try clear g); intro g)
      refine (CY.out _ _ _ (G.sl g (by simp) hsx) HV.out).mono ?_
      rintro e w1 ⟨rfl, hb⟩
      obtain ⟨g1, rfl⟩ := G.call_ex _ hb
      clear hb
      (try clear g)
      revert g1
      intro g
      go_wp2_with (with_reducible refine G.any_mark _ ?_; (try generalize Array.size (World.heap (G.w _)) = bk); (try dsimp only [List.set_cons_zero, List.set_cons_succ]); (try clear g); intro g)
      go_ret2
      exact rne_pass g hsx (by simp) hnnx 0
    · have hO : outN 0 v = (0, 5) := by unfold outN; rw [if_neg (by simp), if_neg hv]
      rw [hO]
      have HV := Lib.hid hv
      clear hO hv
      go_enter Try.func34, Try.ntmps34
      go_wp2_with (with_reducible refine G.any_mark _ ?_; (try generalize Array.size (World.heap (G.w _)) = bk); (try dsimp only [List.set_cons_zero, List.set_cons_succ]); (try clear g); intro g)
      refine (CK.out _ (G.sl g (by simp) h1) (G.sl g (by simp) h2)).mono ?_
      rintro e w1 ⟨rfl, hb⟩
      obtain ⟨g1, rfl⟩ := G.call_ex _ hb
      clear hb
      (try clear g)
      revert g1
      intro g
      go_wp2_with (with_reducible refine G.any_mark _ ?_; (try generalize Array.size (World.heap (G.w _)) = bk); (try dsimp only [List.set_cons_zero, List.set_cons_succ]); (try clear g); intro g)
      refine (CA.out _ (G.sl g (by simp) h1) (G.sl g (by simp) h2)).mono ?_
      rintro e w1 ⟨Ax, cx, Fx, rfl, hsx, hn⟩
      have hnnx := fun k o hk => Nat.le_trans g.chg.size (hn.new k o hk)
      obtain ⟨g1, rfl⟩ := G.new_ex _ hn
      clear hn
      (try clear g)
      revert g1
      intro g
      go_wp2_with (with_reducible refine G.any_mark _ ?_; (try generalize Array.size (World.heap (G.w _)) = bk); (try dsimp only [List.set_cons_zero, List.set_cons_succ]); (try clear g); intro g)
      refine (CN.out _ _ _ (G.sl g (by simp) hsx) HV.out).mono ?_
      rintro e w1 ⟨rfl, hb⟩
      obtain ⟨g1, rfl⟩ := G.call_ex _ hb
      clear hb
      (try clear g)
      revert g1
      intro g
      go_wp2_with (with_reducible refine G.any_mark _ ?_; (try generalize Array.size (World.heap (G.w _)) = bk); (try dsimp only [List.set_cons_zero, List.set_cons_succ]); (try clear g); intro g)
      go_ret2
      exact rne_err g 5
  · have hx' : (chk2 l1 l2 == 0) = false := by simpa using hx
    have hO : outN (chk2 l1 l2) (val l1 + val l2) = (0, chk2 l1 l2) := by unfold outN; rw [if_pos hx]
    rw [hO]
    clear hO hx
    generalize chk2 l1 l2 = r at *
    generalize l1.length = n1 at *
    generalize l2.length = n2 at *
    go_enter Try.func34, Try.ntmps34
    go_wp2_with (with_reducible refine G.any_mark _ ?_; (try generalize Array.size (World.heap (G.w _)) = bk); (try dsimp only [List.set_cons_zero, List.set_cons_succ]); (try clear g); intro g)
    refine (CK.out _ (G.sl g (by simp) h1) (G.sl g (by simp) h2)).mono ?_
    rintro e w1 ⟨rfl, hb⟩
    obtain ⟨g1, rfl⟩ := G.call_ex _ hb
    clear hb
    (try clear g)
    revert g1
    intro g
    go_wp2_with (with_reducible refine G.any_mark _ ?_; (try generalize Array.size (World.heap (G.w _)) = bk); (try dsimp only [List.set_cons_zero, List.set_cons_succ]); (try clear g); intro g)
    go_ret2
    exact rne_err g r
set_option maxRecDepth 20000 in
theorem rMul_any (A1 A2 : Option Addr) (c1 c2 : Nat) (l1 l2 : List Nat) (w : World) (h1 : SlW w A1 c1 l1) (h2 : SlW w A2 c2 l2) :
    Calls Try.prog 36 #[.slice A1 l1.length c1, .slice A2 l2.length c2] w (RNE (outN (chk2 l1 l2) (val l1 * val l2)) w) := by
  refine calls_b fun g => ?_
  have CK := Lib.hid (fun w h1 h2 => both_any A1 A2 c1 c2 l1 l2 w h1 h2)
  by_cases hx : chk2 l1 l2 = 0
  · obtain ⟨k1, k2⟩ := chk2_ok hx
    obtain ⟨e1, b1, n1'⟩ := chk_ok h1.ok k1
    obtain ⟨e2, b2, n2'⟩ := chk_ok h2.ok k2
    have CA := Lib.hid (fun w h1 h2 => rmul_any A1 A2 c1 c2 l1 l2 w h1 h2 (by omega) (by omega))
    skip
    have CY := Lib.hid (fun A c w h hv => rfits_yes A c (val l1 * val l2) w h hv)
    have CN := Lib.hid (fun A c w h hv => rfits_no A c (val l1 * val l2) w h hv)
    rw [hx] at CK ⊢
    clear hx k1 k2 e1 e2 b1 b2 n1' n2'
    generalize val l1 * val l2 = v at *
    generalize l1.length = n1 at *
    generalize l2.length = n2 at *
    rcases Decidable.em (v < 2 ^ 8192) with hv | hv
    · have hO : outN 0 v = (v, 0) := by unfold outN; rw [if_neg (by simp), if_pos hv]
      rw [hO]
      have HV := Lib.hid hv
      clear hO hv
      go_enter Try.func36, Try.ntmps36
      go_wp2_with (with_reducible refine G.any_mark _ ?_; (try generalize Array.size (World.heap (G.w _)) = bk); (try dsimp only [List.set_cons_zero, List.set_cons_succ]); (try clear g); intro g)
      refine (CK.out _ (G.sl g (by simp) h1) (G.sl g (by simp) h2)).mono ?_
      rintro e w1 ⟨rfl, hb⟩
      obtain ⟨g1, rfl⟩ := G.call_ex _ hb
      clear hb
      (try clear g)
      revert g1
      intro g
      go_wp2_with (with_reducible refine G.any_mark _ ?_; (try generalize Array.size (World.heap (G.w _)) = bk); (try dsimp only [List.set_cons_zero, List.set_cons_succ]); (try clear g); intro g)
      refine (CA.out _ (G.sl g (by simp) h1) (G.sl g (by simp) h2)).mono ?_
      rintro e w1 ⟨Ax, cx, Fx, rfl, hsx, hn⟩
      have hnnx := fun k o hk => Nat.le_trans g.chg.size (hn.new k o hk)
      obtain ⟨g1, rfl⟩ := G.new_ex _ hn
      clear hn
      (try clear g)
      revert g1
      intro g
      go_wp2_with (with_reducible refine G.any_mark _ ?_; (try generalize Array.size (World.heap (G.w _)) = bk); (try dsimp only [List.set_cons_zero, List.set_cons_succ]); (try clear g); intro g)
      refine (CY.out _ _ _ (G.sl g (by simp) hsx) HV.out).mono ?_
      rintro e w1 ⟨rfl, hb⟩
      obtain ⟨g1, rfl⟩ := G.call_ex _ hb
      clear hb
      (try clear g)
      revert g1
      intro g
      go_wp2_with (with_reducible refine G.any_mark _ ?_; (try generalize Array.size (World.heap (G.w _)) = bk); (try dsimp only [List.set_cons_zero, List.set_cons_succ]); (try clear g); intro g)
      go_ret2
      exact rne_pass g hsx (by simp) hnnx 0
    · have hO : outN 0 v = (0, 5) := by unfold outN; rw [if_neg (by simp), if_neg hv]
      rw [hO]
      have HV := Lib.hid hv
      clear hO hv
      go_enter Try.func36, Try.ntmps36
      go_wp2_with (with_reducible refine G.any_mark _ ?_; (try generalize Array.size (World.heap (G.w _)) = bk); (try dsimp only [List.set_cons_zero, List.set_cons_succ]); (try clear g); intro g)
      refine (CK.out _ (G.sl g (by simp) h1) (G.sl g (by simp) h2)).mono ?_
      rintro e w1 ⟨rfl, hb⟩
      obtain ⟨g1, rfl⟩ := G.call_ex _ hb
      clear hb
      (try clear g)
      revert g1
      intro g
      go_wp2_with (with_reducible refine G.any_mark _ ?_; (try generalize Array.size (World.heap (G.w _)) = bk); (try dsimp only [List.set_cons_zero, List.set_cons_succ]); (try clear g); intro g)
      refine (CA.out _ (G.sl g (by simp) h1) (G.sl g (by simp) h2)).mono ?_
      rintro e w1 ⟨Ax, cx, Fx, rfl, hsx, hn⟩
      have hnnx := fun k o hk => Nat.le_trans g.chg.size (hn.new k o hk)
      obtain ⟨g1, rfl⟩ := G.new_ex _ hn
      clear hn
      (try clear g)
      revert g1
      intro g
      go_wp2_with (with_reducible refine G.any_mark _ ?_; (try generalize Array.size (World.heap (G.w _)) = bk); (try dsimp only [List.set_cons_zero, List.set_cons_succ]); (try clear g); intro g)
      refine (CN.out _ _ _ (G.sl g (by simp) hsx) HV.out).mono ?_
      rintro e w1 ⟨rfl, hb⟩
      obtain ⟨g1, rfl⟩ := G.call_ex _ hb
      clear hb
      (try clear g)
      revert g1
      intro g
      go_wp2_with (with_reducible refine G.any_mark _ ?_; (try generalize Array.size (World.heap (G.w _)) = bk); (try dsimp only [List.set_cons_zero, List.set_cons_succ]); (try clear g); intro g)
      go_ret2
      exact rne_err g 5
  · have hx' : (chk2 l1 l2 == 0) = false := by simpa using hx
    have hO : outN (chk2 l1 l2) (val l1 * val l2) = (0, chk2 l1 l2) := by unfold outN; rw [if_pos hx]
    rw [hO]
    clear hO hx
    generalize chk2 l1 l2 = r at *
    generalize l1.length = n1 at *
    generalize l2.length = n2 at *
    go_enter Try.func36, Try.ntmps36
    go_wp2_with (with_reducible refine G.any_mark _ ?_; (try generalize Array.size (World.heap (G.w _)) = bk); (try dsimp only [List.set_cons_zero, List.set_cons_succ]); (try clear g); intro g)
    refine (CK.out _ (G.sl g (by simp) h1) (G.sl g (by simp) h2)).mono ?_
    rintro e w1 ⟨rfl, hb⟩
    obtain ⟨g1, rfl⟩ := G.call_ex _ hb
    clear hb
    (try clear g)
    revert g1
    intro g
    go_wp2_with (with_reducible refine G.any_mark _ ?_; (try generalize Array.size (World.heap (G.w _)) = bk); (try dsimp only [List.set_cons_zero, List.set_cons_succ]); (try clear g); intro g)
    go_ret2
    exact rne_err g r
set_option maxRecDepth 20000 in
theorem rCmp_any (A1 A2 : Option Addr) (c1 c2 : Nat) (l1 l2 : List Nat) (w : World) (h1 : SlW w A1 c1 l1) (h2 : SlW w A2 c2 l2) :
    Calls Try.prog 42 #[.slice A1 l1.length c1, .slice A2 l2.length c2] w fun e w' => e = .returned (.tuple #[.int .i64 (outC (chk2 l1 l2) (ord (val l1) (val l2))).1, .int .i64 (outC (chk2 l1 l2) (ord (val l1) (val l2))).2]) ∧ Below w.heap.size w w' := by
  refine calls_b fun g => ?_
  have CK := Lib.hid (fun w h1 h2 => both_any A1 A2 c1 c2 l1 l2 w h1 h2)
  by_cases hx : chk2 l1 l2 = 0
  · obtain ⟨k1, k2⟩ := chk2_ok hx
    obtain ⟨e1, b1, n1'⟩ := chk_ok h1.ok k1
    obtain ⟨e2, b2, n2'⟩ := chk_ok h2.ok k2
    have CA := Lib.hid (fun w h1 h2 => rcmp_any A1 A2 c1 c2 (val l1) (val l2) w h1 h2 (by rw [← e1]; omega))
    rw [← e1, ← e2] at CA
    have hO : outC (chk2 l1 l2) (ord (val l1) (val l2)) = (ord (val l1) (val l2), 0) := by unfold outC; rw [if_neg (by simpa using hx)]
    rw [hO]
    rw [hx] at CK
    clear hx k1 k2 e1 e2 b1 b2 n1' n2' hO
    generalize ord (val l1) (val l2) = v at *
    generalize l1.length = n1 at *
    generalize l2.length = n2 at *
    go_enter Try.func42, Try.ntmps42
    go_wp2_with (with_reducible refine G.any_mark _ ?_; (try generalize Array.size (World.heap (G.w _)) = bk); (try dsimp only [List.set_cons_zero, List.set_cons_succ]); (try clear g); intro g)
    refine (CK.out _ (G.sl g (by simp) h1) (G.sl g (by simp) h2)).mono ?_
    rintro e w1 ⟨rfl, hb⟩
    obtain ⟨g1, rfl⟩ := G.call_ex _ hb
    clear hb
    (try clear g)
    revert g1
    intro g
    go_wp2_with (with_reducible refine G.any_mark _ ?_; (try generalize Array.size (World.heap (G.w _)) = bk); (try dsimp only [List.set_cons_zero, List.set_cons_succ]); (try clear g); intro g)
    refine (CA.out _ (G.sl g (by simp) h1) (G.sl g (by simp) h2)).mono ?_
    rintro e w1 ⟨rfl, hb⟩
    obtain ⟨g1, rfl⟩ := G.call_ex _ hb
    clear hb
    (try clear g)
    revert g1
    intro g
    go_wp2_with (with_reducible refine G.any_mark _ ?_; (try generalize Array.size (World.heap (G.w _)) = bk); (try dsimp only [List.set_cons_zero, List.set_cons_succ]); (try clear g); intro g)
    go_ret2
    exact ⟨rfl, g.below⟩
  · have hx' : (chk2 l1 l2 == 0) = false := by simpa using hx
    have hO : outC (chk2 l1 l2) (ord (val l1) (val l2)) = (0, chk2 l1 l2) := by unfold outC; rw [if_pos hx]
    rw [hO]
    clear hO hx
    generalize chk2 l1 l2 = r at *
    generalize l1.length = n1 at *
    generalize l2.length = n2 at *
    go_enter Try.func42, Try.ntmps42
    go_wp2_with (with_reducible refine G.any_mark _ ?_; (try generalize Array.size (World.heap (G.w _)) = bk); (try dsimp only [List.set_cons_zero, List.set_cons_succ]); (try clear g); intro g)
    refine (CK.out _ (G.sl g (by simp) h1) (G.sl g (by simp) h2)).mono ?_
    rintro e w1 ⟨rfl, hb⟩
    obtain ⟨g1, rfl⟩ := G.call_ex _ hb
    clear hb
    (try clear g)
    revert g1
    intro g
    go_wp2_with (with_reducible refine G.any_mark _ ?_; (try generalize Array.size (World.heap (G.w _)) = bk); (try dsimp only [List.set_cons_zero, List.set_cons_succ]); (try clear g); intro g)
    go_ret2
    exact ⟨rfl, g.below⟩
set_option maxRecDepth 20000 in
theorem rSub_any (A1 A2 : Option Addr) (c1 c2 : Nat) (l1 l2 : List Nat) (w : World) (h1 : SlW w A1 c1 l1) (h2 : SlW w A2 c2 l2) :
    Calls Try.prog 35 #[.slice A1 l1.length c1, .slice A2 l2.length c2] w (RNE (outS (chk2 l1 l2) (val l1) (val l2)) w) := by
  refine calls_b fun g => ?_
  have CK := Lib.hid (fun w h1 h2 => both_any A1 A2 c1 c2 l1 l2 w h1 h2)
  by_cases hx : chk2 l1 l2 = 0
  · obtain ⟨k1, k2⟩ := chk2_ok hx
    obtain ⟨e1, b1, n1'⟩ := chk_ok h1.ok k1
    obtain ⟨e2, b2, n2'⟩ := chk_ok h2.ok k2
    have CA := Lib.hid (fun w h1 h2 => rcmp_any A1 A2 c1 c2 (val l1) (val l2) w h1 h2 (by rw [← e1]; omega))
    rw [← e1, ← e2] at CA
    rw [hx] at CK
    have hx0 := hx
    by_cases hlt : val l1 < val l2
    · have hO : outS (chk2 l1 l2) (val l1) (val l2) = (0, 2) := by unfold outS; rw [if_neg (by simpa using hx), if_pos hlt]
      have hord : ord (val l1) (val l2) = -1 := by unfold ord; rw [if_pos hlt]
      rw [hO]
      rw [hord] at CA
      clear hx hx0 k1 k2 e1 e2 b1 b2 n1' n2' hO hlt hord
      generalize l1.length = n1 at *
      generalize l2.length = n2 at *
      go_enter Try.func35, Try.ntmps35
      go_wp2_with (with_reducible refine G.any_mark _ ?_; (try generalize Array.size (World.heap (G.w _)) = bk); (try dsimp only [List.set_cons_zero, List.set_cons_succ]); (try clear g); intro g)
      refine (CK.out _ (G.sl g (by simp) h1) (G.sl g (by simp) h2)).mono ?_
      rintro e w1 ⟨rfl, hb⟩
      obtain ⟨g1, rfl⟩ := G.call_ex _ hb
      clear hb
      (try clear g)
      revert g1
      intro g
      go_wp2_with (with_reducible refine G.any_mark _ ?_; (try generalize Array.size (World.heap (G.w _)) = bk); (try dsimp only [List.set_cons_zero, List.set_cons_succ]); (try clear g); intro g)
      refine (CA.out _ (G.sl g (by simp) h1) (G.sl g (by simp) h2)).mono ?_
      rintro e w1 ⟨rfl, hb⟩
      obtain ⟨g1, rfl⟩ := G.call_ex _ hb
      clear hb
      (try clear g)
      revert g1
      intro g
      go_wp2_with (with_reducible refine G.any_mark _ ?_; (try generalize Array.size (World.heap (G.w _)) = bk); (try dsimp only [List.set_cons_zero, List.set_cons_succ]); (try clear g); intro g)
      go_ret2
      exact rne_err g 2
    · have hO : outS (chk2 l1 l2) (val l1) (val l2) = (val l1 - val l2, 0) := by unfold outS; rw [if_neg (by simpa using hx), if_neg hlt]
      obtain ⟨C, hC⟩ : ∃ C, ord (val l1) (val l2) = C := ⟨_, rfl⟩
      have hC0 : 0 ≤ C := by rw [← hC]; unfold ord; rw [if_neg hlt]; split <;> decide
      have hC1 : ¬ C < 0 := by omega
      have hll : l2.length ≤ l1.length := by
        have := limbs_len_mono (m := val l2) (n := val l1) (by omega)
        rwa [← e1, ← e2] at this
      have CS := Lib.hid (fun w h1 h2 => rsub_any A1 A2 c1 c2 l1 l2 w h1 h2 (by omega) hll (by omega))
      rw [hO]
      rw [hC] at CA
      clear hx hx0 k1 k2 e1 e2 b1 b2 n1' n2' hO hlt hC hll
      generalize val l1 - val l2 = v at *
      generalize l1.length = n1 at *
      generalize l2.length = n2 at *
      go_enter Try.func35, Try.ntmps35
      go_wp2_with (with_reducible refine G.any_mark _ ?_; (try generalize Array.size (World.heap (G.w _)) = bk); (try dsimp only [List.set_cons_zero, List.set_cons_succ]); (try clear g); intro g)
      refine (CK.out _ (G.sl g (by simp) h1) (G.sl g (by simp) h2)).mono ?_
      rintro e w1 ⟨rfl, hb⟩
      obtain ⟨g1, rfl⟩ := G.call_ex _ hb
      clear hb
      (try clear g)
      revert g1
      intro g
      go_wp2_with (with_reducible refine G.any_mark _ ?_; (try generalize Array.size (World.heap (G.w _)) = bk); (try dsimp only [List.set_cons_zero, List.set_cons_succ]); (try clear g); intro g)
      refine (CA.out _ (G.sl g (by simp) h1) (G.sl g (by simp) h2)).mono ?_
      rintro e w1 ⟨rfl, hb⟩
      obtain ⟨g1, rfl⟩ := G.call_ex _ hb
      clear hb
      (try clear g)
      revert g1
      intro g
      go_wp2_with (with_reducible refine G.any_mark _ ?_; (try generalize Array.size (World.heap (G.w _)) = bk); (try dsimp only [List.set_cons_zero, List.set_cons_succ]); (try clear g); intro g)
      refine (CS.out _ (G.sl g (by simp) h1) (G.sl g (by simp) h2)).mono ?_
      rintro e w1 ⟨Ax, cx, Fx, rfl, hsx, hn⟩
      have hnnx := fun k o hk => Nat.le_trans g.chg.size (hn.new k o hk)
      obtain ⟨g1, rfl⟩ := G.new_ex _ hn
      clear hn
      (try clear g)
      revert g1
      intro g
      go_wp2_with (with_reducible refine G.any_mark _ ?_; (try generalize Array.size (World.heap (G.w _)) = bk); (try dsimp only [List.set_cons_zero, List.set_cons_succ]); (try clear g); intro g)
      go_ret2
      exact rne_pass g hsx (by simp) hnnx 0
  · have hx' : (chk2 l1 l2 == 0) = false := by simpa using hx
    have hO : outS (chk2 l1 l2) (val l1) (val l2) = (0, chk2 l1 l2) := by unfold outS; rw [if_pos hx]
    rw [hO]
    clear hO hx
    generalize chk2 l1 l2 = r at *
    generalize l1.length = n1 at *
    generalize l2.length = n2 at *
    go_enter Try.func35, Try.ntmps35
    go_wp2_with (with_reducible refine G.any_mark _ ?_; (try generalize Array.size (World.heap (G.w _)) = bk); (try dsimp only [List.set_cons_zero, List.set_cons_succ]); (try clear g); intro g)
    refine (CK.out _ (G.sl g (by simp) h1) (G.sl g (by simp) h2)).mono ?_
    rintro e w1 ⟨rfl, hb⟩
    obtain ⟨g1, rfl⟩ := G.call_ex _ hb
    clear hb
    (try clear g)
    revert g1
    intro g
    go_wp2_with (with_reducible refine G.any_mark _ ?_; (try generalize Array.size (World.heap (G.w _)) = bk); (try dsimp only [List.set_cons_zero, List.set_cons_succ]); (try clear g); intro g)
    go_ret2
    exact rne_err g r
/-- what Bits returns -/
def outB (e : Int) (v : Nat) : Int × Int := if e ≠ 0 then (0, e) else ((nb v : Int), 0)
theorem nBits_any (A : Option Addr) (c : Nat) (l : List Nat) (w : World) (h : SlW w A c l) :
    Calls Try.prog 40 #[.slice A l.length c] w fun e w' => e = .returned (.tuple #[.int .i64 (outB (chk l) (val l)).1, .int .i64 (outB (chk l) (val l)).2]) ∧ Below w.heap.size w w' := by
  refine calls_b fun g => ?_
  have CK := Lib.hid (fun w h => check_any A c l w h)
  by_cases hx : chk l = 0
  · obtain ⟨e1, b1, n1'⟩ := chk_ok h.ok hx
    have CB := Lib.hid (fun w h => length_any A c (val l) w h (by rw [← e1]; omega))
    rw [← e1] at CB
    have hO : outB (chk l) (val l) = ((nb (val l) : Int), 0) := by unfold outB; rw [if_neg (by simpa using hx)]
    rw [hO]
    rw [hx] at CK
    clear hx e1 b1 n1' hO
    generalize nb (val l) = v at *
    generalize l.length = n at *
    go_enter Try.func40, Try.ntmps40
    go_wp2_with (with_reducible refine G.any_mark _ ?_; (try generalize Array.size (World.heap (G.w _)) = bk); (try dsimp only [List.set_cons_zero, List.set_cons_succ]); (try clear g); intro g)
    refine (CK.out _ (G.sl g (by simp) h)).mono ?_
    rintro e w1 ⟨rfl, hb⟩
    obtain ⟨g1, rfl⟩ := G.call_ex _ hb
    clear hb
    (try clear g)
    revert g1
    intro g
    go_wp2_with (with_reducible refine G.any_mark _ ?_; (try generalize Array.size (World.heap (G.w _)) = bk); (try dsimp only [List.set_cons_zero, List.set_cons_succ]); (try clear g); intro g)
    refine (CB.out _ (G.sl g (by simp) h)).mono ?_
    rintro e w1 ⟨rfl, hb⟩
    obtain ⟨g1, rfl⟩ := G.call_ex _ hb
    clear hb
    (try clear g)
    revert g1
    intro g
    go_wp2_with (with_reducible refine G.any_mark _ ?_; (try generalize Array.size (World.heap (G.w _)) = bk); (try dsimp only [List.set_cons_zero, List.set_cons_succ]); (try clear g); intro g)
    go_ret2
    exact ⟨rfl, g.below⟩
  · have hx' : (chk l == 0) = false := by simpa using hx
    have hO : outB (chk l) (val l) = (0, chk l) := by unfold outB; rw [if_pos hx]
    rw [hO]
    clear hO hx
    generalize chk l = r at *
    generalize l.length = n at *
    go_enter Try.func40, Try.ntmps40
    go_wp2_with (with_reducible refine G.any_mark _ ?_; (try generalize Array.size (World.heap (G.w _)) = bk); (try dsimp only [List.set_cons_zero, List.set_cons_succ]); (try clear g); intro g)
    refine (CK.out _ (G.sl g (by simp) h)).mono ?_
    rintro e w1 ⟨rfl, hb⟩
    obtain ⟨g1, rfl⟩ := G.call_ex _ hb
    clear hb
    (try clear g)
    revert g1
    intro g
    go_wp2_with (with_reducible refine G.any_mark _ ?_; (try generalize Array.size (World.heap (G.w _)) = bk); (try dsimp only [List.set_cons_zero, List.set_cons_succ]); (try clear g); intro g)
    go_ret2
    exact ⟨rfl, g.below⟩
theorem rBits_any (A : Option Addr) (c : Nat) (l : List Nat) (w : World) (h : SlW w A c l) :
    Calls Try.prog 41 #[.slice A l.length c] w fun e w' => e = .returned (.tuple #[.int .i64 (outB (chk l) (val l)).1, .int .i64 (outB (chk l) (val l)).2]) ∧ Below w.heap.size w w' := by
  refine calls_b fun g => ?_
  have CK := Lib.hid (fun w h => rcheck_any A c l w h)
  by_cases hx : chk l = 0
  · obtain ⟨e1, b1, n1'⟩ := chk_ok h.ok hx
    have CB := Lib.hid (fun w h => rbits_any A c (val l) w h (by rw [← e1]; omega))
    rw [← e1] at CB
    have hO : outB (chk l) (val l) = ((nb (val l) : Int), 0) := by unfold outB; rw [if_neg (by simpa using hx)]
    rw [hO]
    rw [hx] at CK
    clear hx e1 b1 n1' hO
    generalize nb (val l) = v at *
    generalize l.length = n at *
    go_enter Try.func41, Try.ntmps41
    go_wp2_with (with_reducible refine G.any_mark _ ?_; (try generalize Array.size (World.heap (G.w _)) = bk); (try dsimp only [List.set_cons_zero, List.set_cons_succ]); (try clear g); intro g)
    refine (CK.out _ (G.sl g (by simp) h)).mono ?_
    rintro e w1 ⟨rfl, hb⟩
    obtain ⟨g1, rfl⟩ := G.call_ex _ hb
    clear hb
    (try clear g)
    revert g1
    intro g
    go_wp2_with (with_reducible refine G.any_mark _ ?_; (try generalize Array.size (World.heap (G.w _)) = bk); (try dsimp only [List.set_cons_zero, List.set_cons_succ]); (try clear g); intro g)
    refine (CB.out _ (G.sl g (by simp) h)).mono ?_
    rintro e w1 ⟨rfl, hb⟩
    obtain ⟨g1, rfl⟩ := G.call_ex _ hb
    clear hb
    (try clear g)
    revert g1
    intro g
    go_wp2_with (with_reducible refine G.any_mark _ ?_; (try generalize Array.size (World.heap (G.w _)) = bk); (try dsimp only [List.set_cons_zero, List.set_cons_succ]); (try clear g); intro g)
    go_ret2
    exact ⟨rfl, g.below⟩
  · have hx' : (chk l == 0) = false := by simpa using hx
    have hO : outB (chk l) (val l) = (0, chk l) := by unfold outB; rw [if_pos hx]
    rw [hO]
    clear hO hx
    generalize chk l = r at *
    generalize l.length = n at *
    go_enter Try.func41, Try.ntmps41
    go_wp2_with (with_reducible refine G.any_mark _ ?_; (try generalize Array.size (World.heap (G.w _)) = bk); (try dsimp only [List.set_cons_zero, List.set_cons_succ]); (try clear g); intro g)
    refine (CK.out _ (G.sl g (by simp) h)).mono ?_
    rintro e w1 ⟨rfl, hb⟩
    obtain ⟨g1, rfl⟩ := G.call_ex _ hb
    clear hb
    (try clear g)
    revert g1
    intro g
    go_wp2_with (with_reducible refine G.any_mark _ ?_; (try generalize Array.size (World.heap (G.w _)) = bk); (try dsimp only [List.set_cons_zero, List.set_cons_succ]); (try clear g); intro g)
    go_ret2
    exact ⟨rfl, g.below⟩
end Go.Proofs.Ytfifcpgjcgoinaa
namespace Go.Proofs.Ytfifcpgjcgoinaa
open Go.RowKit GW NL
/-- what Int returns -/
def outI (e : Int) (v : Nat) : Int × Int := if e ≠ 0 then (0, e) else if 63 < nb v then (0, 5) else ((v : Int), 0)
theorem two_parts {l : List Nat} (h : Ok l) (hv : val l < 9223372036854775808) : l.getD 0 0 = val l % 4294967296 ∧ l.getD 1 0 = val l / 4294967296 := by
  have h0 := getD_val l h 0
  have h1 := getD_val l h 1
  rw [Nat.pow_zero, Nat.div_one] at h0
  rw [Nat.pow_one, Nat.mod_eq_of_lt (by omega)] at h1
  exact ⟨h0, h1⟩
set_option maxRecDepth 20000 in
theorem Int_any (A : Option Addr) (c : Nat) (l : List Nat) (w : World) (h : SlW w A c l) :
    Calls Try.prog 38 #[.slice A l.length c] w fun e w' => e = .returned (.tuple #[.int .i64 (outI (chk l) (val l)).1, .int .i64 (outI (chk l) (val l)).2]) ∧ Below w.heap.size w w' := by
  refine calls_b fun g => ?_
  have CK := Lib.hid (fun w h => check_any A c l w h)
  by_cases hx : chk l = 0
  · obtain ⟨e1, b1, n1'⟩ := chk_ok h.ok hx
    have CB := Lib.hid (fun w h => length_any A c (val l) w h (by rw [← e1]; omega))
    rw [← e1] at CB
    by_cases h63 : 63 < nb (val l)
    · have hO : outI (chk l) (val l) = (0, 5) := by unfold outI; rw [if_neg (by simpa using hx), if_pos h63]
      rw [hO]
      rw [hx] at CK
      have h63i : (63 : Int) < (nb (val l) : Nat) := by omega
      clear hx e1 b1 n1' hO h63
      generalize nb (val l) = v at *
      generalize l.length = n at *
      go_enter Try.func38, Try.ntmps38
      go_wp2_with (with_reducible refine G.any_mark _ ?_; (try generalize Array.size (World.heap (G.w _)) = bk); (try dsimp only [List.set_cons_zero, List.set_cons_succ]); (try clear g); intro g)
      refine (CK.out _ (G.sl g (by simp) h)).mono ?_
      rintro e w1 ⟨rfl, hb⟩
      obtain ⟨g1, rfl⟩ := G.call_ex _ hb
      clear hb
      (try clear g)
      revert g1
      intro g
      go_wp2_with (with_reducible refine G.any_mark _ ?_; (try generalize Array.size (World.heap (G.w _)) = bk); (try dsimp only [List.set_cons_zero, List.set_cons_succ]); (try clear g); intro g)
      refine (CB.out _ (G.sl g (by simp) h)).mono ?_
      rintro e w1 ⟨rfl, hb⟩
      obtain ⟨g1, rfl⟩ := G.call_ex _ hb
      clear hb
      (try clear g)
      revert g1
      intro g
      go_wp2_with (with_reducible refine G.any_mark _ ?_; (try generalize Array.size (World.heap (G.w _)) = bk); (try dsimp only [List.set_cons_zero, List.set_cons_succ]); (try clear g); intro g)
      go_ret2
      exact ⟨rfl, g.below⟩
    · have hO : outI (chk l) (val l) = ((val l : Int), 0) := by unfold outI; rw [if_neg (by simpa using hx), if_neg h63]
      have hv : val l < 9223372036854775808 := by
        have := (nb_le (val l) 63).1 (by omega)
        simpa using this
      obtain ⟨p0, p1⟩ := two_parts h.ok hv
      have CL0 := Lib.hid (fun w h => limb_any A c l 0 w h (by omega))
      have CL1 := Lib.hid (fun w h => limb_any A c l 1 w h (by omega))
      rw [hO]
      rw [hx] at CK
      have h63i : ¬ ((63 : Int) < (nb (val l) : Nat)) := by omega
      rw [show ((0 : Nat) : Int) = 0 from rfl] at CL0
      rw [show ((1 : Nat) : Int) = 1 from rfl] at CL1
      clear hx e1 b1 n1' hO h63
      generalize l.getD 0 0 = x at *
      generalize l.getD 1 0 = y at *
      generalize val l = V at *
      have hyV : y * 4294967296 + x = V := by omega
      have hx9 : x < 4294967296 := by omega
      have hy9 : y < 2147483648 := by omega
      have hor : bits .or .i64 ((y : Int) * 4294967296) (x : Int) = (V : Int) := by
        rw [show (y : Int) * 4294967296 = ((y * 4294967296 : Nat) : Int) by omega, K3.or_i64_comm, K3.or_i64_add _ _ 32 (by omega) (by omega) (by omega) (by omega)]
        omega
      have hw1 : IntKind.i64.wrap (y : Int) = (y : Int) := by rw [IntKind.wrap_i64]; omega
      have hw2 : IntKind.i64.wrap (x : Int) = (x : Int) := by rw [IntKind.wrap_i64]; omega
      have hw3 : IntKind.i64.wrap ((y : Int) * 4294967296) = (y : Int) * 4294967296 := by rw [IntKind.wrap_i64]; omega
      clear p0 p1 hyV
      generalize nb V = v at *
      generalize l.length = n at *
      go_enter Try.func38, Try.ntmps38
      go_wp2_with (with_reducible refine G.any_mark _ ?_; (try generalize Array.size (World.heap (G.w _)) = bk); (try dsimp only [List.set_cons_zero, List.set_cons_succ]); (try clear g); intro g)
      refine (CK.out _ (G.sl g (by simp) h)).mono ?_
      rintro e w1 ⟨rfl, hb⟩
      obtain ⟨g1, rfl⟩ := G.call_ex _ hb
      clear hb
      (try clear g)
      revert g1
      intro g
      go_wp2_with (with_reducible refine G.any_mark _ ?_; (try generalize Array.size (World.heap (G.w _)) = bk); (try dsimp only [List.set_cons_zero, List.set_cons_succ]); (try clear g); intro g)
      refine (CB.out _ (G.sl g (by simp) h)).mono ?_
      rintro e w1 ⟨rfl, hb⟩
      obtain ⟨g1, rfl⟩ := G.call_ex _ hb
      clear hb
      (try clear g)
      revert g1
      intro g
      go_wp2_with (with_reducible refine G.any_mark _ ?_; (try generalize Array.size (World.heap (G.w _)) = bk); (try dsimp only [List.set_cons_zero, List.set_cons_succ]); (try clear g); intro g)
      refine (CL1.out _ (G.sl g (by simp) h)).mono ?_
      rintro e w1 ⟨rfl, rfl⟩
      go_wp2_with (with_reducible refine G.any_mark _ ?_; (try generalize Array.size (World.heap (G.w _)) = bk); (try dsimp only [List.set_cons_zero, List.set_cons_succ]); (try clear g); intro g)
      refine (CL0.out _ (G.sl g (by simp) h)).mono ?_
      rintro e w1 ⟨rfl, rfl⟩
      go_wp2_with (with_reducible refine G.any_mark _ ?_; (try generalize Array.size (World.heap (G.w _)) = bk); (try dsimp only [List.set_cons_zero, List.set_cons_succ]); (try clear g); intro g)
      go_ret2
      exact ⟨rfl, g.below⟩
  · have hx' : (chk l == 0) = false := by simpa using hx
    have hO : outI (chk l) (val l) = (0, chk l) := by unfold outI; rw [if_pos hx]
    rw [hO]
    clear hO hx
    generalize chk l = r at *
    generalize l.length = n at *
    go_enter Try.func38, Try.ntmps38
    go_wp2_with (with_reducible refine G.any_mark _ ?_; (try generalize Array.size (World.heap (G.w _)) = bk); (try dsimp only [List.set_cons_zero, List.set_cons_succ]); (try clear g); intro g)
    refine (CK.out _ (G.sl g (by simp) h)).mono ?_
    rintro e w1 ⟨rfl, hb⟩
    obtain ⟨g1, rfl⟩ := G.call_ex _ hb
    clear hb
    (try clear g)
    revert g1
    intro g
    go_wp2_with (with_reducible refine G.any_mark _ ?_; (try generalize Array.size (World.heap (G.w _)) = bk); (try dsimp only [List.set_cons_zero, List.set_cons_succ]); (try clear g); intro g)
    go_ret2
    exact ⟨rfl, g.below⟩
theorem drop_lt {l : List Nat} (h : Ok l) (k : Nat) (hv : val l < 9223372036854775808) : val (l.drop (k + 1)) * 4294967296 + l.getD k 0 < 9223372036854775808 := by
  have := val_drop_getD l k
  have h2 := val_div l h k
  have := Nat.div_le_self (val l) (4294967296 ^ k)
  omega
set_option maxRecDepth 20000 in
theorem rInt_any (A : Option Addr) (c : Nat) (l : List Nat) (w : World) (h : SlW w A c l) :
    Calls Try.prog 39 #[.slice A l.length c] w fun e w' => e = .returned (.tuple #[.int .i64 (outI (chk l) (val l)).1, .int .i64 (outI (chk l) (val l)).2]) ∧ Below w.heap.size w w' := by
  refine calls_b fun g => ?_
  have CK := Lib.hid (fun w h => rcheck_any A c l w h)
  by_cases hx : chk l = 0
  · obtain ⟨e1, b1, n1'⟩ := chk_ok h.ok hx
    have CB := Lib.hid (fun w h => rbits_any A c (val l) w h (by rw [← e1]; omega))
    rw [← e1] at CB
    by_cases h63 : 63 < nb (val l)
    · have hO : outI (chk l) (val l) = (0, 5) := by unfold outI; rw [if_neg (by simpa using hx), if_pos h63]
      rw [hO]
      rw [hx] at CK
      have h63i : (63 : Int) < (nb (val l) : Nat) := by omega
      clear hx e1 b1 n1' hO h63
      generalize nb (val l) = v at *
      generalize l.length = n at *
      go_enter Try.func39, Try.ntmps39
      go_wp2_with (with_reducible refine G.any_mark _ ?_; (try generalize Array.size (World.heap (G.w _)) = bk); (try dsimp only [List.set_cons_zero, List.set_cons_succ]); (try clear g); intro g)
      refine (CK.out _ (G.sl g (by simp) h)).mono ?_
      rintro e w1 ⟨rfl, hb⟩
      obtain ⟨g1, rfl⟩ := G.call_ex _ hb
      clear hb
      (try clear g)
      revert g1
      intro g
      go_wp2_with (with_reducible refine G.any_mark _ ?_; (try generalize Array.size (World.heap (G.w _)) = bk); (try dsimp only [List.set_cons_zero, List.set_cons_succ]); (try clear g); intro g)
      refine (CB.out _ (G.sl g (by simp) h)).mono ?_
      rintro e w1 ⟨rfl, hb⟩
      obtain ⟨g1, rfl⟩ := G.call_ex _ hb
      clear hb
      (try clear g)
      revert g1
      intro g
      go_wp2_with (with_reducible refine G.any_mark _ ?_; (try generalize Array.size (World.heap (G.w _)) = bk); (try dsimp only [List.set_cons_zero, List.set_cons_succ]); (try clear g); intro g)
      go_ret2
      exact ⟨rfl, g.below⟩
    · have hO : outI (chk l) (val l) = ((val l : Int), 0) := by unfold outI; rw [if_neg (by simpa using hx), if_neg h63]
      have hv : val l < 9223372036854775808 := by
        have := (nb_le (val l) 63).1 (by omega)
        simpa using this
      have hok := h.ok
      rw [hO]
      rw [hx] at CK
      have h63i : ¬ ((63 : Int) < (nb (val l) : Nat)) := by omega
      have HV := Lib.hid hv
      have n9 : l.length ≤ 256 := n1'
      clear hx e1 b1 n1' hO h63 hv
      generalize nb (val l) = v at *
      obtain ⟨n, hn⟩ : ∃ n, l.length = n := ⟨_, rfl⟩
      rw [hn] at CK CB n9 ⊢
      have HN := Lib.hid hn
      clear hn
      go_enter Try.func39, Try.ntmps39
      go_wp2_with (with_reducible refine G.any_mark _ ?_; (try generalize Array.size (World.heap (G.w _)) = bk); (try dsimp only [List.set_cons_zero, List.set_cons_succ]); (try clear g); intro g)
      refine (CK.out _ (G.sl g (by simp) h)).mono ?_
      rintro e w1 ⟨rfl, hb⟩
      obtain ⟨g1, rfl⟩ := G.call_ex _ hb
      clear hb
      (try clear g)
      revert g1
      intro g
      go_wp2_with (with_reducible refine G.any_mark _ ?_; (try generalize Array.size (World.heap (G.w _)) = bk); (try dsimp only [List.set_cons_zero, List.set_cons_succ]); (try clear g); intro g)
      refine (CB.out _ (G.sl g (by simp) h)).mono ?_
      rintro e w1 ⟨rfl, hb⟩
      obtain ⟨g1, rfl⟩ := G.call_ex _ hb
      clear hb
      (try clear g)
      revert g1
      intro g
      go_wp2_with (with_reducible refine G.any_mark _ ?_; (try generalize Array.size (World.heap (G.w _)) = bk); (try dsimp only [List.set_cons_zero, List.set_cons_succ]); (try clear g); intro g)
      go_loopg [5, 6] n (fun gk s5 s6 wr => gk ≤ n ∧ s6 = .int .i64 ((gk : Int) - 1) ∧ s5 = .int .i64 ((val (l.drop gk) : Nat) : Int) ∧ ∃ g : G w [] [] [heapOf w], wr = g.w)
      case atStart => exact ⟨Nat.le_refl _, rfl, by rw [List.drop_of_length_le (by rw [HN.out]; exact Nat.le_refl _)]; rfl, g, rfl⟩
      case round =>
        clear g CB CK
        obtain ⟨hg, rfl, rfl, g, rfl⟩ := hrel
        cases gk with
        | zero =>
          have HZ : Hid (val (l.drop 0) = val l) := Lib.hid (by rw [List.drop_zero])
          generalize val (l.drop 0) = O at *
          go_wp2_with (with_reducible refine G.any_mark _ ?_; (try generalize Array.size (World.heap (G.w _)) = bk); (try dsimp only [List.set_cons_zero, List.set_cons_succ]); (try clear g); intro g)
          go_ret2
          exact ⟨ret_tup2 (by rw [HZ.out]) rfl, g.below⟩
        | succ k =>
          rw [show ((k + 1 : Nat) : Int) - 1 = (k : Int) by omega]
          obtain ⟨b, o, rfl, hcell⟩ := lim_cells h.lim (by rw [HN.out]; omega)
          have e0 := hcell k (by rw [HN.out]; omega) _ _ _ _ g (by simp)
          clear hcell
          have hd := drop_lt hok k HV.out
          have hdv := val_drop_getD l k
          have hX := hok.getD k
          have hki : (k : Int) < (n : Int) := by omega
          have hk0 : (0 : Int) ≤ (k : Int) := by omega
          generalize val (l.drop (k + 1)) = O at *
          generalize l.getD k 0 = X at *
          obtain ⟨O2, hO2⟩ : ∃ O2, val (l.drop k) = O2 := ⟨_, rfl⟩
          rw [hO2] at hdv
          have hor : bits .or .i64 ((O : Int) * 4294967296) (X : Int) = (O2 : Int) := by
            rw [show (O : Int) * 4294967296 = ((O * 4294967296 : Nat) : Int) by omega, K3.or_i64_comm, K3.or_i64_add _ _ 32 (by omega) (by omega) (by omega) (by omega)]
            omega
          have hw2 : IntKind.i64.wrap (X : Int) = (X : Int) := by rw [IntKind.wrap_i64]; omega
          have hw3 : IntKind.i64.wrap ((O : Int) * 4294967296) = (O : Int) * 4294967296 := by rw [IntKind.wrap_i64]; omega
          have HO2 := Lib.hid hO2
          clear hO2 hdv hd
          go_wp2_with (with_reducible refine G.any_mark _ ?_; (try generalize Array.size (World.heap (G.w _)) = bk); (try dsimp only [List.set_cons_zero, List.set_cons_succ]); (try clear g); intro g)
          go_roundg k
          case measure => omega
          case rel => exact ⟨by omega, rfl, by rw [HO2.out], g, rfl⟩
  · have hx' : (chk l == 0) = false := by simpa using hx
    have hO : outI (chk l) (val l) = (0, chk l) := by unfold outI; rw [if_pos hx]
    rw [hO]
    clear hO hx
    generalize chk l = r at *
    generalize l.length = n at *
    go_enter Try.func39, Try.ntmps39
    go_wp2_with (with_reducible refine G.any_mark _ ?_; (try generalize Array.size (World.heap (G.w _)) = bk); (try dsimp only [List.set_cons_zero, List.set_cons_succ]); (try clear g); intro g)
    refine (CK.out _ (G.sl g (by simp) h)).mono ?_
    rintro e w1 ⟨rfl, hb⟩
    obtain ⟨g1, rfl⟩ := G.call_ex _ hb
    clear hb
    (try clear g)
    revert g1
    intro g
    go_wp2_with (with_reducible refine G.any_mark _ ?_; (try generalize Array.size (World.heap (G.w _)) = bk); (try dsimp only [List.set_cons_zero, List.set_cons_succ]); (try clear g); intro g)
    go_ret2
    exact ⟨rfl, g.below⟩
end Go.Proofs.Ytfifcpgjcgoinaa
