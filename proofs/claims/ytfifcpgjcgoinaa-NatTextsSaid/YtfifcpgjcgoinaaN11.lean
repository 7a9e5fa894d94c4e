/- Contracts of functions of the program, out of walks. Their conditions stand ahead of each. -/
import Derived.Test.YtfifcpgjcgoinaaN10
import Derived.Test.YtfifcpgjcgoinaaNp2
set_option linter.unusedVariables false
set_option linter.unusedSimpArgs false
namespace Go.Proofs.Ytfifcpgjcgoinaa
open Go.RowKit GW NL
set_option maxRecDepth 20000 in
theorem shift_up (A : Option Addr) (c : Nat) (l : List Nat) (s : Nat) (w : World) (h : SlW w A c l) (hl : l.length ≤ 1000000000) (hs : s ≤ 1000000000) :
    Calls Try.prog 66 #[.slice A l.length c, .int .i64 (s : Int)] w (RNat (val l * 2 ^ s) w) := by
  refine calls_b fun g => ?_
  obtain ⟨n1, hn1⟩ : ∃ n : Nat, l.length = n := ⟨_, rfl⟩
  obtain ⟨q, hq⟩ : ∃ q : Nat, s / 32 = q := ⟨_, rfl⟩
  obtain ⟨r, hr⟩ : ∃ r : Nat, s % 32 = r := ⟨_, rfl⟩
  have hr32 : r < 32 := by omega
  have hq9 : q ≤ 1000000000 := by omega
  have hqi : Int.tdiv (s : Int) 32 = (q : Int) := by rw [Int.tdiv_eq_ediv_of_nonneg (by omega)]; omega
  have hri : Int.tmod (s : Int) 32 = (r : Int) := by rw [Int.tmod_eq_emod_of_nonneg (by omega)]; omega
  have hpow : 4294967296 ^ q * 2 ^ r = 2 ^ s := by rw [pow32, ← Nat.pow_add]; congr 1; omega
  have HP := Lib.hid hpow
  have hs0 : ¬ ((s : Int) < 0) := by omega
  rw [hn1]
  have ha1 : l.length ≤ n1 := by omega
  have ha2 : n1 ≤ l.length := by omega
  clear hn1 hq hr hpow
  obtain ⟨n, hn⟩ : ∃ n : Nat, n1 + q + 1 = n := ⟨_, rfl⟩
  have hmk : ∀ w, (Instr.makeSlice 24 (.int .i64 ((n1 : Int) + (q : Int) + 1)) (.int .i64 ((n1 : Int) + (q : Int) + 1))).run Try.prog w = .ok (.slice (some ⟨w.heap.size, 0, none⟩) n n) (w.alloc (.cells (u32s (List.replicate n 0)).toArray 30)) := by
    intro w
    have := make_nat n (by omega) w
    rw [← hn] at this ⊢
    exact this
  have hn' : n ≤ n1 + q + 1 := by omega
  have hn'' : n1 + q + 1 ≤ n := by omega
  clear hn
  generalize (s : Int) = si at *
  go_enter Try.func66, Try.ntmps66
  go_wp2_with (with_reducible refine G.any_mark _ ?_; (try generalize Array.size (World.heap (G.w _)) = bk); (try dsimp only [List.set_cons_zero, List.set_cons_succ]); (try clear g); intro g)
  go_loopw [69] (fun i wr => ∃ (k : Nat) (out : List Nat), i = .int .i64 k ∧ k ≤ n1 ∧ n ≤ out.length ∧ out.length ≤ n ∧ Ok out ∧ val out = val (l.take k) * 2 ^ s ∧ ∃ g : G w [] [(bk, 30, u32s out)] [heapOf w], wr = g.w) (fun i _ => n1 - (intOf i).toNat)
  case atStart => exact ⟨0, List.replicate n 0, rfl, Nat.zero_le _, by simp, by simp, Ok.zeros _, by rw [val_zeros]; simp [val], g, rfl⟩
  case round =>
    clear g hmk
    obtain ⟨k, out, rfl, hk, hp1, hp2, hok, hv, g, rfl⟩ := hrel
    have HV := Lib.hid hv
    clear hv
    by_cases hk2 : k < n1
    · obtain ⟨b, o, rfl, hcell⟩ := lim_cells h.lim (by omega)
      have e0 := hcell k (by omega) _ _ _ _ g (by simp)
      clear hcell
      have hx := h.ok.getD k
      have hV : val out < 4294967296 ^ (k + q) * 2 ^ r := by
        rw [HV.out, ← HP.out, Nat.pow_add, Nat.mul_assoc, ← Nat.mul_assoc]
        have b := val_lt (h.ok.take k)
        rw [List.length_take, Nat.min_eq_left (by omega)] at b
        rw [← Nat.mul_assoc]
        have := Nat.mul_lt_mul_of_pos_right b (show 0 < 4294967296 ^ q * 2 ^ r from Nat.mul_pos (Nat.pow_pos (by decide)) (Nat.two_pow_pos r))
        rwa [← Nat.mul_assoc, ← Nat.mul_assoc] at this
      obtain ⟨u1, u2, u3, u4⟩ := up_step (x := l.getD k 0) hok hr32 hx (by omega) hV
      have hz := u32s_getD (l := out) (j := k + q) (by omega)
      have hz2 := u32s_getD (l := out) (j := k + q + 1) (by omega)
      have hV2 : Hid (∀ x, l.getD k 0 = x → val out + 4294967296 ^ (k + q) * (x * 2 ^ r) = val (l.take (k + 1)) * 2 ^ s) := Lib.hid (fun x hx => by
        rw [HV.out, val_take_getD, ← HP.out, hx, Nat.add_mul, Nat.pow_add]
        generalize 2 ^ r = R
        generalize 4294967296 ^ q = Q
        generalize 4294967296 ^ k = K
        rw [Nat.mul_assoc K x, Nat.mul_assoc K Q, Nat.mul_left_comm Q x R])
      have hok2 := (hok.set (k + q) u1).set (k + q + 1) u2
      have hlen : ((out.set (k + q) (out.getD (k + q) 0 + l.getD k 0 * 2 ^ r % 4294967296)).set (k + q + 1) (l.getD k 0 * 2 ^ r / 4294967296)).length = out.length := by simp
      have hV3 := hV2.out _ rfl
      have hlow : (l.getD k 0 * 2 ^ r % 4294967296) % 2 ^ r = 0 := by
        have hd : (4294967296 : Nat) = 2 ^ r * 2 ^ (32 - r) := by rw [← Nat.pow_add, show r + (32 - r) = 32 by omega]
        rw [hd, Nat.mod_mul_right_mod, Nat.mul_mod_left]
      have hzr : out.getD (k + q) 0 < 2 ^ r := (top_limb hok hV (by omega)).2.1
      have hy64 : l.getD k 0 * 2 ^ r < 18446744073709551616 := by
        have : l.getD k 0 * 2 ^ r < 4294967296 * 2 ^ r := Nat.mul_lt_mul_of_pos_right hx (Nat.two_pow_pos r)
        have h2 : (2 : Nat) ^ r ≤ 2 ^ 32 := Nat.pow_le_pow_right (by decide) (by omega)
        omega
      generalize out.getD (k + q + 1) 0 = z2 at *
      obtain ⟨x, hxx⟩ : ∃ x, l.getD k 0 = x := ⟨_, rfl⟩
      rw [hxx] at e0 hx u1 u2 u3 u4 hV3 hok2 hlen hlow hy64
      clear hV2 hxx hV u4
      obtain ⟨y, hy⟩ : ∃ y, x * 2 ^ r = y := ⟨_, rfl⟩
      rw [hy] at u1 u2 u3 hV3 hok2 hlen hlow hy64
      have hsh : IntKind.u64.wrap ((x : Int) * 2 ^ r) = (y : Int) := by
        rw [show (x : Int) * 2 ^ r = ((x * 2 ^ r : Nat) : Int) by rw [Int.natCast_mul, Int.natCast_pow]; rfl, hy, IntKind.wrap_u64]
        omega
      clear hy
      have hor : bits .or .u32 ((out.getD (k + q) 0 : Nat) : Int) ((y : Int) % 4294967296) = ((out.getD (k + q) 0 + y % 4294967296 : Nat) : Int) := by
        rw [K3.or32_comm, show (y : Int) % 4294967296 = ((y % 4294967296 : Nat) : Int) by omega]
        rw [K3.or32_comm, K3.or32_add _ _ r (by omega) hzr (by omega) hlow, Nat.add_comm]
      have hs1 := Lib.hid (u32s_set out (k + q) (out.getD (k + q) 0 + y % 4294967296))
      have hs2 := Lib.hid (u32s_set (out.set (k + q) (out.getD (k + q) 0 + y % 4294967296)) (k + q + 1) (y / 4294967296))
      have U3 := Lib.hid (u3.trans hV3)
      generalize out.getD (k + q) 0 + y % 4294967296 = lo at *
      generalize out.getD (k + q) 0 = z at *
      have hl1 := Nat.le_of_eq hlen
      have hl2 := Nat.le_of_eq hlen.symm
      have HHI : Hid ((y : Int) / 4294967296 = ((y / 4294967296 : Nat) : Int)) := Lib.hid (by omega)
      have hob : ∃ ob : Nat, ob = bk := ⟨_, rfl⟩
      clear u3 hV3 hlen HV hlow hy64 hzr
      go_wp2_with (with_reducible refine G.any_mark _ ?_; (try generalize Array.size (World.heap (G.w _)) = bk); (try dsimp only [List.set_cons_zero, List.set_cons_succ]); (try clear g); intro g)
      obtain ⟨g2, hg2⟩ := g.as (by rw [hs1.out, HHI.out, hs2.out])
      exact ⟨⟨k + 1, _, by go_num, by omega, by omega, by omega, hok2, U3.out, g2, hg2⟩, by simp [intOf]; omega⟩
    · obtain rfl : k = n1 := by omega
      have e1 := HV.out
      rw [val_take_all ha1] at e1
      have E1 := Lib.hid e1
      obtain rfl : n = out.length := by omega
      clear e1 HV
      have hsl : SlW g.w (some ⟨bk, 0, none⟩) out.length out := (sl_blk (Nat.le_refl _) (by omega) hok).at (blkF_sub g.blk0)
      go_wp2_with (with_reducible refine G.any_mark _ ?_; (try generalize Array.size (World.heap (G.w _)) = bk); (try dsimp only [List.set_cons_zero, List.set_cons_succ]); (try clear g); intro g)
      refine (trim_any _ _ out _ hsl).mono ?_
      rintro e w1 ⟨rfl, hb⟩
      obtain ⟨g1, rfl⟩ := G.call_ex _ hb
      clear hb hsl g
      revert g1
      intro g
      go_wp2_with (with_reducible refine G.any_mark _ ?_; (try generalize Array.size (World.heap (G.w _)) = bk); (try dsimp only [List.set_cons_zero, List.set_cons_succ]); (try clear g); intro g)
      go_ret
      exact rnat_end g (List.mem_cons_self ..) hok (Nat.le_refl _) (by omega) E1.out
end Go.Proofs.Ytfifcpgjcgoinaa
