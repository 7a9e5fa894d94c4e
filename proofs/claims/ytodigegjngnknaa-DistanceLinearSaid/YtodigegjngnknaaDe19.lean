/- Plain facts and contracts of functions of the program, out of walks. Their conditions stand ahead of each. -/
import Derived.Test.YtodigegjngnknaaDe3
import Derived.Test.YtodigegjngnknaaDe18
import Derived.Below
import Derived.BigQuiet
import Derived.Deep.Draws
import Derived.Deep.QuietTactic
import Derived.Deep.RegionHeld3
import Derived.Laws.NewBlocks
import Derived.Laws.OwnMore
import Derived.Laws.Pointers
import Derived.Laws.Rows
import Derived.Lib.BitFns
import Derived.Lib.Hide
import Derived.Lib.ItoaNum
import Derived.LoopIn
import Derived.LoopNIn
import Derived.OwnWalkIn
import Derived.RangeFuncBound
import Derived.RangeFuncBox
import Derived.RangeFuncCalls
import Derived.RangeFuncLeaves
import Derived.RangeFuncNested
import Derived.RowKit3
import Derived.Shelf.Abstract
import Derived.Shelf.RegionOpen
import Derived.StillTactics
import Derived.StillTailTactics
import Derived.TacticsInMore
import Derived.Test.YtodigegjngnknaaProg
import Derived.WalkKit
import Derived.WalkLawsBesides
import Derived.WalkSpells
set_option linter.unusedVariables false
set_option linter.unusedSimpArgs false
namespace Go.Proofs.Ytodigegjngnknaa
open Go.RowKit GW NL
set_option maxRecDepth 20000 in
theorem shift_up (A : Option Addr) (c : Nat) (l : List Nat) (s : Nat) (w : World) (h : SlW w A c l) (hl : l.length ≤ 1000000000) (hs : s ≤ 1000000000) :
    Calls Try.prog 77 #[.slice A l.length c, .int .i64 (s : Int)] w (RNat (val l * 2 ^ s) w) := by
  refine calls_b fun g => ?_
  obtain ⟨n1, hn1⟩ : ∃ n : Nat, l.length = n := ⟨_, rfl⟩
  obtain ⟨q, hq⟩ : ∃ q : Nat, s / 32 = q := ⟨_, rfl⟩
  obtain ⟨r, hr⟩ : ∃ r : Nat, s % 32 = r := ⟨_, rfl⟩
  have hr32 : r < 32 := by omega
  have hq9 : q ≤ 1000000000 := by omega
  have hqi : Int.tdiv (s : Int) 32 = (q : Int) := by rw [Int.tdiv_eq_ediv_of_nonneg (by omega)]; omega
  have hri : Int.tmod (s : Int) 32 = (r : Int) := by rw [Int.tmod_eq_emod_of_nonneg (by omega)]; omega
  have hpow : 4294967296 ^ q * 2 ^ r = 2 ^ s := by rw [pow32, ← Nat.pow_add]; congr 1; omega
  have HP := Lib.hid hpow
  have hs0 : ¬ ((s : Int) < 0) := by omega
  rw [hn1]
  have ha1 : l.length ≤ n1 := by omega
  have ha2 : n1 ≤ l.length := by omega
  clear hn1 hq hr hpow
  obtain ⟨n, hn⟩ : ∃ n : Nat, n1 + q + 1 = n := ⟨_, rfl⟩
  have hmk : ∀ w, (Instr.makeSlice 65 (.int .i64 ((n1 : Int) + (q : Int) + 1)) (.int .i64 ((n1 : Int) + (q : Int) + 1))).run Try.prog w = .ok (.slice (some ⟨w.heap.size, 0, none⟩) n n) (w.alloc (.cells (u32s (List.replicate n 0)).toArray 82)) := by
    intro w
    have := make_nat n (by omega) w
    rw [← hn] at this ⊢
    exact this
  have hn' : n ≤ n1 + q + 1 := by omega
  have hn'' : n1 + q + 1 ≤ n := by omega
  clear hn
  generalize (s : Int) = si at *
  go_enter Try.func77, Try.ntmps77
  go_wp2_with (with_reducible refine G.any_mark _ ?_; (try generalize Array.size (World.heap (G.w _)) = bk); (try dsimp only [List.set_cons_zero, List.set_cons_succ]); (try clear g); intro g)
  go_loopw [69] (fun i wr => ∃ (k : Nat) (out : List Nat), i = .int .i64 k ∧ k ≤ n1 ∧ n ≤ out.length ∧ out.length ≤ n ∧ Ok out ∧ val out = val (l.take k) * 2 ^ s ∧ ∃ g : G w [] [(bk, 82, u32s out)] [heapOf w], wr = g.w) (fun i _ => n1 - (intOf i).toNat)
  case atStart => exact ⟨0, List.replicate n 0, rfl, Nat.zero_le _, by simp, by simp, Ok.zeros _, by rw [val_zeros]; simp [val], g, rfl⟩
  case round =>
    clear g hmk
    obtain ⟨k, out, rfl, hk, hp1, hp2, hok, hv, g, rfl⟩ := hrel
    have HV := Lib.hid hv
    clear hv
    by_cases hk2 : k < n1
    · obtain ⟨b, o, rfl, hcell⟩ := lim_cells h.lim (by omega)
      have e0 := hcell k (by omega) _ _ _ _ g (by simp)
      clear hcell
      have hx := h.ok.getD k
      have hV : val out < 4294967296 ^ (k + q) * 2 ^ r := by
        rw [HV.out, ← HP.out, Nat.pow_add, Nat.mul_assoc, ← Nat.mul_assoc]
        have b := val_lt (h.ok.take k)
        rw [List.length_take, Nat.min_eq_left (by omega)] at b
        rw [← Nat.mul_assoc]
        have := Nat.mul_lt_mul_of_pos_right b (show 0 < 4294967296 ^ q * 2 ^ r from Nat.mul_pos (Nat.pow_pos (by decide)) (Nat.two_pow_pos r))
        rwa [← Nat.mul_assoc, ← Nat.mul_assoc] at this
      obtain ⟨u1, u2, u3, u4⟩ := up_step (x := l.getD k 0) hok hr32 hx (by omega) hV
      have hz := u32s_getD (l := out) (j := k + q) (by omega)
      have hz2 := u32s_getD (l := out) (j := k + q + 1) (by omega)
      have hV2 : Hid (∀ x, l.getD k 0 = x → val out + 4294967296 ^ (k + q) * (x * 2 ^ r) = val (l.take (k + 1)) * 2 ^ s) := Lib.hid (fun x hx => by
        rw [HV.out, val_take_getD, ← HP.out, hx, Nat.add_mul, Nat.pow_add]
        generalize 2 ^ r = R
        generalize 4294967296 ^ q = Q
        generalize 4294967296 ^ k = K
        rw [Nat.mul_assoc K x, Nat.mul_assoc K Q, Nat.mul_left_comm Q x R])
      have hok2 := (hok.set (k + q) u1).set (k + q + 1) u2
      have hlen : ((out.set (k + q) (out.getD (k + q) 0 + l.getD k 0 * 2 ^ r % 4294967296)).set (k + q + 1) (l.getD k 0 * 2 ^ r / 4294967296)).length = out.length := by simp
      have hV3 := hV2.out _ rfl
      have hlow : (l.getD k 0 * 2 ^ r % 4294967296) % 2 ^ r = 0 := by
        have hd : (4294967296 : Nat) = 2 ^ r * 2 ^ (32 - r) := by rw [← Nat.pow_add, show r + (32 - r) = 32 by omega]
        rw [hd, Nat.mod_mul_right_mod, Nat.mul_mod_left]
      have hzr : out.getD (k + q) 0 < 2 ^ r := (top_limb hok hV (by omega)).2.1
      have hy64 : l.getD k 0 * 2 ^ r < 18446744073709551616 := by
        have : l.getD k 0 * 2 ^ r < 4294967296 * 2 ^ r := Nat.mul_lt_mul_of_pos_right hx (Nat.two_pow_pos r)
        have h2 : (2 : Nat) ^ r ≤ 2 ^ 32 := Nat.pow_le_pow_right (by decide) (by omega)
        omega
      generalize out.getD (k + q + 1) 0 = z2 at *
      obtain ⟨x, hxx⟩ : ∃ x, l.getD k 0 = x := ⟨_, rfl⟩
      rw [hxx] at e0 hx u1 u2 u3 u4 hV3 hok2 hlen hlow hy64
      clear hV2 hxx hV u4
      obtain ⟨y, hy⟩ : ∃ y, x * 2 ^ r = y := ⟨_, rfl⟩
      rw [hy] at u1 u2 u3 hV3 hok2 hlen hlow hy64
      have hsh : IntKind.u64.wrap ((x : Int) * 2 ^ r) = (y : Int) := by
        rw [show (x : Int) * 2 ^ r = ((x * 2 ^ r : Nat) : Int) by rw [Int.natCast_mul, Int.natCast_pow]; rfl, hy, IntKind.wrap_u64]
        omega
      clear hy
      have hor : bits .or .u32 ((out.getD (k + q) 0 : Nat) : Int) ((y : Int) % 4294967296) = ((out.getD (k + q) 0 + y % 4294967296 : Nat) : Int) := by
        rw [K3.or32_comm, show (y : Int) % 4294967296 = ((y % 4294967296 : Nat) : Int) by omega]
        rw [K3.or32_comm, K3.or32_add _ _ r (by omega) hzr (by omega) hlow, Nat.add_comm]
      have hs1 := Lib.hid (u32s_set out (k + q) (out.getD (k + q) 0 + y % 4294967296))
      have hs2 := Lib.hid (u32s_set (out.set (k + q) (out.getD (k + q) 0 + y % 4294967296)) (k + q + 1) (y / 4294967296))
      have U3 := Lib.hid (u3.trans hV3)
      generalize out.getD (k + q) 0 + y % 4294967296 = lo at *
      generalize out.getD (k + q) 0 = z at *
      have hl1 := Nat.le_of_eq hlen
      have hl2 := Nat.le_of_eq hlen.symm
      have HHI : Hid ((y : Int) / 4294967296 = ((y / 4294967296 : Nat) : Int)) := Lib.hid (by omega)
      have hob : ∃ ob : Nat, ob = bk := ⟨_, rfl⟩
      clear u3 hV3 hlen HV hlow hy64 hzr
      go_wp2_with (with_reducible refine G.any_mark _ ?_; (try generalize Array.size (World.heap (G.w _)) = bk); (try dsimp only [List.set_cons_zero, List.set_cons_succ]); (try clear g); intro g)
      obtain ⟨g2, hg2⟩ := g.as (by rw [hs1.out, HHI.out, hs2.out])
      exact ⟨⟨k + 1, _, by go_num, by omega, by omega, by omega, hok2, U3.out, g2, hg2⟩, by simp [intOf]; omega⟩
    · obtain rfl : k = n1 := by omega
      have e1 := HV.out
      rw [val_take_all ha1] at e1
      have E1 := Lib.hid e1
      obtain rfl : n = out.length := by omega
      clear e1 HV
      have hsl : SlW g.w (some ⟨bk, 0, none⟩) out.length out := (sl_blk (Nat.le_refl _) (by omega) hok).at (blkF_sub g.blk0)
      go_wp2_with (with_reducible refine G.any_mark _ ?_; (try generalize Array.size (World.heap (G.w _)) = bk); (try dsimp only [List.set_cons_zero, List.set_cons_succ]); (try clear g); intro g)
      refine (trim_any _ _ out _ hsl).mono ?_
      rintro e w1 ⟨rfl, hb⟩
      obtain ⟨g1, rfl⟩ := G.call_ex _ hb
      clear hb hsl g
      revert g1
      intro g
      go_wp2_with (with_reducible refine G.any_mark _ ?_; (try generalize Array.size (World.heap (G.w _)) = bk); (try dsimp only [List.set_cons_zero, List.set_cons_succ]); (try clear g); intro g)
      go_ret
      exact rnat_end g (List.mem_cons_self ..) hok (Nat.le_refl _) (by omega) E1.out
end Go.Proofs.Ytodigegjngnknaa
namespace Go.Proofs.Ytodigegjngnknaa
open Go.RowKit GW NL
theorem down_zero {l : List Nat} (hk : Ok l) {m : Nat} (h : l.length ≤ m / 32) : val l / 2 ^ m = 0 := by
  apply Nat.div_eq_of_lt
  have h1 := val_lt hk
  rw [pow32] at h1
  exact Nat.lt_of_lt_of_le h1 (Nat.pow_le_pow_right (by decide) (by omega))
set_option maxRecDepth 100000 in
set_option maxHeartbeats 1000000 in
theorem shift_down (A : Option Addr) (c : Nat) (l : List Nat) (m : Nat) (N : Int) (w : World) (h : SlW w A c l) (hl : l.length ≤ 1000000000) (hN : -N = (m : Int)) (hm0 : N < 0) (hm : m ≤ 1000000000) :
    Calls Try.prog 77 #[.slice A l.length c, .int .i64 N] w (RNat (val l / 2 ^ m) w) := by
  refine calls_b fun g => ?_
  obtain ⟨n1, hn1⟩ : ∃ n : Nat, l.length = n := ⟨_, rfl⟩
  obtain ⟨q, hq⟩ : ∃ q : Nat, m / 32 = q := ⟨_, rfl⟩
  obtain ⟨r, hr⟩ : ∃ r : Nat, m % 32 = r := ⟨_, rfl⟩
  have hr32 : r < 32 := by omega
  have hqi : Int.tdiv (m : Int) 32 = (q : Int) := by rw [Int.tdiv_eq_ediv_of_nonneg (by omega)]; omega
  have hri : Int.tmod (m : Int) 32 = (r : Int) := by rw [Int.tmod_eq_emod_of_nonneg (by omega)]; omega
  have hZ := Lib.hid (down_zero (m := m) h.ok)
  have hD : Hid (val l / 2 ^ m = val (l.drop q) / 2 ^ r) := Lib.hid (by rw [div_pow_split, hq, hr, val_div l h.ok])
  have hmx := h.len
  have hmxx := h.max
  have hcp := h.cap
  have hq9 : q ≤ 1000000000 := by omega
  by_cases hqn : l.length ≤ q
  · have hz := hZ.out (by omega)
    rw [hz]
    clear hZ hD
    rw [hn1] at hqn ⊢
    have hn1' : n1 ≤ 140737488355328 := by omega
    clear hn1 hq hr
    have hm' : (m : Int) ≤ 1000000000 := by omega
    generalize (m : Int) = mi at *
    go_enter Try.func77, Try.ntmps77
    go_wp2_with (with_reducible refine G.any_mark _ ?_; (try generalize Array.size (World.heap (G.w _)) = bk); (try dsimp only [List.set_cons_zero, List.set_cons_succ]); (try clear g); intro g)
    go_ret
    exact ⟨none, 0, _, by simp only [limbs_zero]; rfl, by simp only [limbs_zero]; exact Frag.Sl.nil _ _, g.none⟩
  · obtain ⟨n, hn⟩ : ∃ n : Nat, n1 - q = n := ⟨_, rfl⟩
    have hqn' : q < n1 := by omega
    have HQ3 : Hid (decide (n1 ≤ q) = false) := Lib.hid (by rw [decide_eq_false_iff_not]; omega)
    have hmk : ∀ w, (Instr.makeSlice 65 (.int .i64 ((n1 : Int) - (q : Int))) (.int .i64 ((n1 : Int) - (q : Int)))).run Try.prog w = .ok (.slice (some ⟨w.heap.size, 0, none⟩) n n) (w.alloc (.cells (u32s (List.replicate n 0)).toArray 82)) := by
      intro w
      have := make_nat n (by omega) w
      rw [show (n1 : Int) - (q : Int) = (n : Int) by omega]
      exact this
    have hn' : n1 ≤ n + q := by omega
    have hn'' : n + q ≤ n1 := by omega
    have ha1 : l.length ≤ n1 := by omega
    have ha2 : n1 ≤ l.length := by omega
    rw [hn1]
    have hn1' : n1 ≤ 1000000000 := by omega
    clear hn1 hq hr hZ hn hqn hl
    have hm' : (m : Int) ≤ 1000000000 := by omega
    rw [hD.out]
    clear hm hD
    generalize (m : Int) = mi at *
    go_enter Try.func77, Try.ntmps77
    go_wp2_with (with_reducible refine G.any_mark _ ?_; (try generalize Array.size (World.heap (G.w _)) = bk); (try dsimp only [List.set_cons_zero, List.set_cons_succ]); (try clear g); intro g)
    simp only [HQ3.out]
    go_loopw [32] (fun i wr => ∃ (k : Nat) (pre : List Nat), i = .int .i64 k ∧ k ≤ n ∧ pre.length = k ∧ Ok pre ∧ val pre = val (l.drop q) / 2 ^ r % 4294967296 ^ k ∧ ∃ g : G w [] [(bk, 82, u32s (pre ++ List.replicate (n - k) 0))] [heapOf w], wr = g.w) (fun i _ => n - (intOf i).toNat)
    case atStart => exact ⟨0, [], rfl, Nat.zero_le _, rfl, Ok.nil, by simp [val, Nat.mod_one], g, rfl⟩
    case round =>
      clear g hmk
      obtain ⟨k, pre, rfl, hk, hp, hok, hv, g, rfl⟩ := hrel
      have HP := Lib.hid hp
      have HV := Lib.hid hv
      clear hp hv
      by_cases hk2 : k < n
      · obtain ⟨b, o, rfl, hcell⟩ := lim_cells h.lim (by omega)
        have e0 := Lib.hid (hcell (k + q) (by omega))
        clear hcell
        have hx := h.ok.getD (k + q)
        have hy := h.ok.getD (k + q + 1)
        have hpl := u32s_zero_at HP.out hk2
        have dl := down_limb (h.ok.drop q) k r hr32
        have ed1 : (l.drop q).getD k 0 = l.getD (k + q) 0 := by rw [List.getD_eq_getElem?_getD, List.getElem?_drop, Nat.add_comm, ← List.getD_eq_getElem?_getD]
        have ed2 : (l.drop q).getD (k + 1) 0 = l.getD (k + q + 1) 0 := by rw [List.getD_eq_getElem?_getD, List.getElem?_drop, show q + (k + 1) = k + q + 1 by omega, ← List.getD_eq_getElem?_getD]
        rw [ed1, ed2] at dl
        have st := Lib.hid (low_step HP.out HV.out dl)
        have hq := Lib.hid (set_zeros' HP.out hk2 ((l.getD (k + q) 0 + 4294967296 * l.getD (k + q + 1) 0) / 2 ^ r % 4294967296))
        have CL := Lib.hid (fun w (hw : SlW w (some ⟨b, o, none⟩) c l) => limb_any (some ⟨b, o, none⟩) c l (k + q + 1) w hw (by omega))
        have hr : (l.getD (k + q) 0 + 4294967296 * l.getD (k + q + 1) 0) / 2 ^ r % 4294967296 < 4294967296 := Nat.mod_lt _ (by decide)
        clear dl ed1 ed2
        generalize l.getD (k + q) 0 = x at *
        generalize l.getD (k + q + 1) 0 = y at *
        have hor : bits .or .u64 (IntKind.u64.wrap (IntKind.u64.wrap (y : Int) * 4294967296)) (IntKind.u64.wrap (x : Int)) = ((x + 4294967296 * y : Nat) : Int) := by
          rw [show IntKind.u64.wrap (y : Int) = (y : Int) by rw [IntKind.wrap_u64]; omega, show IntKind.u64.wrap (x : Int) = (x : Int) by rw [IntKind.wrap_u64]; omega]
          rw [show IntKind.u64.wrap ((y : Int) * 4294967296) = ((4294967296 * y : Nat) : Int) by rw [IntKind.wrap_u64]; omega, K3.or64_comm, K3.or64_add _ _ 32 (by omega) (by omega) (by omega) (by omega), Nat.add_comm]
        have ht : x + 4294967296 * y < 18446744073709551616 := by omega
        obtain ⟨t, htt⟩ : ∃ t, x + 4294967296 * y = t := ⟨_, rfl⟩
        rw [htt] at hor ht st hq hr
        clear htt
        obtain ⟨z, hz⟩ : ∃ z, t / 2 ^ r % 4294967296 = z := ⟨_, rfl⟩
        rw [hz] at st hq hr
        have HE : Hid (IntKind.u32.wrap (bits .or .u64 (IntKind.u64.wrap (IntKind.u64.wrap (y : Int) * 4294967296)) (IntKind.u64.wrap (x : Int)) / 2 ^ r) = (z : Int)) := Lib.hid (by
          rw [hor, ← hz, show (t : Int) / 2 ^ r = ((t / 2 ^ r : Nat) : Int) by rw [Int.natCast_ediv, Int.natCast_pow]; rfl, IntKind.wrap_u32]
          omega)
        clear hz hor ht
        have hi1 : (k : Int) + (q : Int) < (n1 : Int) := by omega
        have hi2 : (k : Int) < (n : Int) := by omega
        have hi3 : (0 : Int) ≤ (k : Int) + (q : Int) := by omega
        have hi4 : ¬ ((k : Int) + (q : Int) < 0) := by omega
        obtain ⟨j, hj⟩ : ∃ j : Nat, k + q = j := ⟨_, rfl⟩
        have hw1 : IntKind.i64.wrap ((k : Int) + (q : Int)) = (j : Int) := by rw [IntKind.wrap_i64]; omega
        have hw2 : IntKind.i64.wrap ((j : Int) + 1) = (j : Int) + 1 := by rw [IntKind.wrap_i64]; omega
        rw [hj] at e0
        have CL : Hid (∀ w, SlW w (some ⟨b, o, none⟩) c l → Calls Try.prog 83 #[.slice (some ⟨b, o, none⟩) n1 c, .int .i64 ((j : Int) + 1)] w fun e w' => e = .returned (.int .u32 ((y : Nat) : Int)) ∧ w = w') := Lib.hid (fun w hw => by
          have := CL.out w hw
          rwa [show ((k + q + 1 : Nat) : Int) = (j : Int) + 1 by omega, show l.length = n1 by omega] at this)
        have hr0 : ¬ ((r : Int) < 0) := by omega
        have hr1 : (0 : Int) ≤ (r : Int) := by omega
        have hj1 : j < n1 := by omega
        have hj2 : (j : Int) < (n1 : Int) := by omega
        go_wp2_with (with_reducible refine G.any_mark _ ?_; (try generalize Array.size (World.heap (G.w _)) = bk); (try dsimp only [List.set_cons_zero, List.set_cons_succ]); (try clear g); intro g)
        go_region_held3 (fun w' => w'.cell? ⟨b, o + j, none⟩ = some (.int .u32 ((x : Nat) : Int))) (exact e0.out _ _ _ _ _ (by simp)) ((go_at_call 83; refine (CL.out _ (G.sl _ (by simp) h)).mono ?_; rintro e w1 ⟨rfl, rfl⟩))
        ((try simp only [G.drew_eq, G.drewN_eq]); (refine G.any_mark _ ?_; (try generalize Array.size (World.heap (G.w _)) = bk); (try dsimp only [List.set_cons_zero, List.set_cons_succ]); (try clear g); intro g))
        go_wp2_with (with_reducible refine G.any_mark _ ?_; (try generalize Array.size (World.heap (G.w _)) = bk); (try dsimp only [List.set_cons_zero, List.set_cons_succ]); (try clear g); intro g)
        obtain ⟨g2, hg2⟩ := g.as (by rw [HE.out, u32s_set, hq.out])
        exact ⟨⟨k + 1, pre ++ [z], by go_num, by omega, by rw [List.length_append, HP.out]; rfl, hok.append (Ok.cons hr Ok.nil), st.out, g2, hg2⟩, by simp [intOf]; omega⟩
      · obtain rfl : k = n := by omega
        have e1 := down_end (h.ok.drop q) (n := k) (by rw [List.length_drop]; omega) HV.out
        obtain ⟨g2, hg2⟩ := g.as (M' := [(bk, 82, u32s pre)]) (by rw [Nat.sub_self, List.replicate_zero, List.append_nil])
        rw [hg2]
        clear hg2 g
        revert g2
        intro g
        have E1 := Lib.hid e1
        clear e1
        have hp := HP.out
        clear HP
        subst hp
        have hsl : SlW g.w (some ⟨bk, 0, none⟩) pre.length pre := (sl_blk (Nat.le_refl _) (by omega) hok).at (blkF_sub g.blk0)
        go_wp2_with (with_reducible refine G.any_mark _ ?_; (try generalize Array.size (World.heap (G.w _)) = bk); (try dsimp only [List.set_cons_zero, List.set_cons_succ]); (try clear g); intro g)
        refine (trim_any _ _ pre _ hsl).mono ?_
        rintro e w1 ⟨rfl, hb⟩
        obtain ⟨g1, rfl⟩ := G.call_ex _ hb
        clear hb hsl g
        revert g1
        intro g
        go_wp2_with (with_reducible refine G.any_mark _ ?_; (try generalize Array.size (World.heap (G.w _)) = bk); (try dsimp only [List.set_cons_zero, List.set_cons_succ]); (try clear g); intro g)
        go_ret
        exact rnat_end g (List.mem_cons_self ..) hok (Nat.le_refl _) (by omega) E1.out
end Go.Proofs.Ytodigegjngnknaa
namespace Go.Proofs.Ytodigegjngnknaa
open Go.RowKit GW NL Go.Shelf
attribute [local go_sem] Oper.semAt_some
set_option maxRecDepth 100000 in
set_option maxHeartbeats 2000000 in
/-- slices.Backward's closure over limbs; the body keeps what Kp says -/
theorem back1_k (F : Fence) (nn : Nat) (h9 : F.fn 117) (hro : F.round = none) (hn : 1 ≤ nn) (l Bs : Nat) (Kp : World → World → Prop) (hKr : ∀ W, Kp W W) (hKt : ∀ {A B C}, Kp A B → Kp B C → Kp A C) (A : Option Addr) (n cap : Nat) (f : Nat → Nat) (hreach : n ≤ 35184372088832) (hKc : ∀ {W W'}, Kp W W' → W'.cell? ⟨Bs, 0, none⟩ = W.cell? ⟨Bs, 0, none⟩ ∧ ∀ b o, A = some ⟨b, o, none⟩ → ∀ j, j < n → W'.cell? ⟨b, o + j, none⟩ = W.cell? ⟨b, o + j, none⟩) (J Jx : List (Fin n) → World → Prop)
    (hY : ∀ pre (x : Fin n) W, J pre W → pre.length < n → YieldAt F (nn - 1) Try.prog l #[.int .i64 ((x.val : Nat) : Int), .int .u32 ((f x.val : Nat) : Int)] W fun e W' =>
      (e = .returned (.bool true) ∧ J (pre ++ [x]) W' ∧ Kp W W') ∨ (e = .returned (.bool false) ∧ Jx (pre ++ [x]) W'))
    (W : World) (hBc : W.cell? ⟨Bs, 0, none⟩ = some (.slice A n cap)) (hc : 0 < n → ∃ b o, A = some ⟨b, o, none⟩ ∧ ∀ j, j < n → W.cell? ⟨b, o + j, none⟩ = some (.int .u32 ((f j : Nat) : Int))) (h0 : J [] W) :
    CallsIn F nn Try.prog 117 #[.func (.yield l) #[] #[], .pointer (some ⟨Bs, 0, none⟩)] W fun e W' => (∃ v, e = .returned v) ∧
      ((∃ ys, ys = (List.finRange n).reverse ∧ J ys W') ∨ (∃ pre, (∃ k, k ≤ n ∧ pre = (List.finRange n).reverse.take k) ∧ Jx pre W')) := by
  refine callsIn_of_wp Try.func117 rfl h9 ?_ hro
  simp only [Try.ntmps117, List.size_toArray, List.length_cons, List.length_nil, Nat.reduceAdd, Nat.reduceSub, Array.replicate_succ, Array.replicate_zero, List.push_toArray, List.append_toArray, List.nil_append, List.cons_append]
  gi_wp2
  gi_loopw [3] (fun i wr => ∃ (k : Nat) (i' : Int), i = .int .i64 i' ∧ i' + k + 1 = n ∧ k ≤ n ∧ J ((List.finRange n).reverse.take k) wr ∧ Kp W wr)
    (fun i _ => (intOf i + 1).toNat)
  case atStart => exact ⟨0, _, rfl, by omega, Nat.zero_le _, h0, hKr _⟩
  case round =>
    obtain ⟨k, i', rfl, hi, hk, hJs, hnx⟩ := hrel
    have hbx := (hKc hnx).1.trans hBc
    by_cases hlt : 0 ≤ i'
    · obtain ⟨j, rfl⟩ : ∃ j : Nat, i' = j := ⟨i'.toNat, by omega⟩
      obtain ⟨b, o, rfl, hcc⟩ := hc (by omega)
      have hcx := ((hKc hnx).2 b o rfl j (by omega)).trans (hcc j (by omega))
      have hjn : j < n := by omega
      obtain ⟨fn, tmps, assign, body, hy, hR⟩ := hY _ ⟨j, hjn⟩ wr hJs (by rw [rev_take_length hk]; omega)
      dsimp only at hy
      have hE : (List.finRange n).reverse.take (k + 1) = (List.finRange n).reverse.take k ++ [⟨j, hjn⟩] := by
        rw [rev_take (by omega)]
        congr 3
        omega
      have HE := Lib.hid hE
      clear hE hcc hc
      have HI := Lib.hid hi
      have hi1 : j + k < n := by omega
      have hi2 : (j : Int) + k + 1 ≤ n := by omega
      clear hi
      have hjj : ((j : Int) ≥ 0) := by omega
      gi_wp2
      refine hR.mono ?_
      rintro e W3 (⟨rfl, hJ3, hk3⟩ | ⟨rfl, hJx3⟩)
      · gi_wp2
        go_roundw
        case rel => exact ⟨k + 1, _, rfl, by have := HI.out; omega, by omega, by rw [HE.out]; exact hJ3, hKt hnx hk3⟩
        case measure => first | (simp [intOf]; done) | (simp [intOf]; omega)
      · gi_wp2
        refine bodyPost_ret (results_none rfl _ _ _) rfl ?_
        exact ⟨⟨_, rfl⟩, .inr ⟨_, ⟨k + 1, by omega, HE.out.symm⟩, hJx3⟩⟩
    · obtain rfl : k = n := by omega
      obtain rfl : i' = -1 := by omega
      gi_wp2
      go_end0
      rw [List.take_of_length_le (by simp)] at hJs
      first | exact ⟨⟨_, rfl⟩, .inl ⟨_, rfl, hJs⟩⟩ | exact ⟨⟨_, rfl⟩, .inl hJs⟩
theorem div32_any (hi lo d : Nat) (h1 : hi < d) (h2 : lo < 4294967296) (h3 : d < 4294967296) (w : World) :
    Calls Try.prog 119 #[.int .u32 hi, .int .u32 lo, .int .u32 d] w fun e w' => e = .returned (.tuple #[.int .u32 (((hi * 4294967296 + lo) / d : Nat) : Int), .int .u32 (((hi * 4294967296 + lo) % d : Nat) : Int)]) ∧ Below w.heap.size w w' := by
  refine calls_g fun g => ?_
  have hor : bits .or .u64 ((hi : Int) * 4294967296) (lo : Int) = ((hi * 4294967296 + lo : Nat) : Int) := by
    rw [show (hi : Int) * 4294967296 = ((hi * 4294967296 : Nat) : Int) by omega, K3.or64_comm, K3.or64_add _ _ 32 (by omega) (by omega) (by omega) (by omega)]
  have ht : hi * 4294967296 + lo < 18446744073709551616 := by omega
  have hq : (hi * 4294967296 + lo) / d < 4294967296 := by
    apply Nat.div_lt_of_lt_mul
    have := Nat.mul_le_mul_right 4294967296 (Nat.succ_le_of_lt h1)
    rw [Nat.succ_mul] at this
    omega
  have hr : (hi * 4294967296 + lo) % d < d := Nat.mod_lt _ (by omega)
  obtain ⟨t, htt⟩ : ∃ t, hi * 4294967296 + lo = t := ⟨_, rfl⟩
  rw [htt] at hor ht hq hr ⊢
  clear htt
  have e1 : Int.tdiv (t : Int) (d : Int) = ((t / d : Nat) : Int) := by rw [Int.tdiv_eq_ediv_of_nonneg (by omega)]; exact (Int.natCast_ediv t d).symm
  have e2 : Int.tmod (t : Int) (d : Int) = ((t % d : Nat) : Int) := by rw [Int.tmod_eq_emod_of_nonneg (by omega)]; exact (Int.natCast_emod t d).symm
  generalize t / d = q at *
  generalize t % d = r at *
  have hd0 : ((d : Int) == 0) = false := by rw [beq_eq_false_iff_ne]; omega
  have hd1 : ¬ ((d : Int) ≤ (hi : Int)) := by omega
  have hd2 : ((d : Int) = 0) = False := by rw [eq_iff_iff, iff_false]; omega
  have hwd : IntKind.u64.wrap (d : Int) = (d : Int) := by rw [IntKind.wrap_u64]; omega
  have hwq : IntKind.u64.wrap (q : Int) = (q : Int) := by rw [IntKind.wrap_u64]; omega
  have hwr : IntKind.u64.wrap (r : Int) = (r : Int) := by rw [IntKind.wrap_u64]; omega
  have hvq : IntKind.u32.wrap (q : Int) = (q : Int) := by rw [IntKind.wrap_u32]; omega
  have hvr : IntKind.u32.wrap (r : Int) = (r : Int) := by rw [IntKind.wrap_u32]; omega
  go_enter Try.func119, Try.ntmps119
  go_wp2_with (with_reducible refine G.any_mark _ ?_; (try generalize Array.size (World.heap (G.w _)) = bk); (try dsimp only [List.set_cons_zero, List.set_cons_succ]); (try clear g); intro g)
  go_region_held3 (fun _ => True) (trivial) (fail)
  ((try simp only [G.drew_eq, G.drewN_eq]); (refine G.any_mark _ ?_; (try generalize Array.size (World.heap (G.w _)) = bk); (try dsimp only [List.set_cons_zero, List.set_cons_succ]); (try clear g); intro g))
  go_wp2_with (with_reducible refine G.any_mark _ ?_; (try generalize Array.size (World.heap (G.w _)) = bk); (try dsimp only [List.set_cons_zero, List.set_cons_succ]); (try clear g); intro g)
  go_ret2
  exact ⟨rfl, G.below _⟩
end Go.Proofs.Ytodigegjngnknaa
