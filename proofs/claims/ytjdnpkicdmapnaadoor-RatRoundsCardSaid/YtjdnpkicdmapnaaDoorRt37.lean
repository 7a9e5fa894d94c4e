/- Plain facts and contracts of functions of the program, out of walks. Their conditions stand ahead of each. -/
import Derived.Test.YtjdnpkicdmapnaaDoorRt18
import Derived.Test.YtjdnpkicdmapnaaDoorRt36
import Derived.Below
import Derived.BigQuiet
import Derived.Deep.Draws
import Derived.Deep.LoopGhost
import Derived.Deep.QuietTactic
import Derived.Deep.RegionHeld3
import Derived.Defers
import Derived.Laws.BytesString
import Derived.Laws.Cells
import Derived.Laws.CopyOwn
import Derived.Laws.NewBlocks
import Derived.Laws.OwnMore
import Derived.Laws.Pointers
import Derived.Laws.Rows
import Derived.Lib.BitFns
import Derived.Lib.Hide
import Derived.Lib.ItoaNum
import Derived.LoopIn
import Derived.LoopNIn
import Derived.Maps.AppendAt
import Derived.OrdersIn
import Derived.OwnWalk
import Derived.OwnWalkIn
import Derived.RangeFuncBound
import Derived.RangeFuncBox
import Derived.RangeFuncCalls
import Derived.RangeFuncLeaves
import Derived.RangeFuncNested
import Derived.RowKit3
import Derived.Shelf.Abstract
import Derived.Shelf.RegionOpen
import Derived.StillTactics
import Derived.StillTailTactics
import Derived.TacticsInMore
import Derived.Test.YtjdnpkicdmapnaaDoorProg
import Derived.WalkKit
import Derived.WalkLawsBesides
import Derived.WalkMore
import Derived.WalkSpells
set_option linter.unusedVariables false
set_option linter.unusedSimpArgs false
set_option exponentiation.threshold 10000
namespace Go.Proofs.YtjdnpkicdmapnaaDoor
open Go.RowKit GW NL
set_option maxRecDepth 20000 in
set_option maxHeartbeats 2000000 in
theorem rshift_down (A : Option Addr) (c : Nat) (l : List Nat) (m : Nat) (N : Int) (w : World) (h : SlW w A c l) (hl : l.length ≤ 1000000000) (hN : -N = (m : Int)) (hm0 : N < 0) (hm : m ≤ 1000000000) :
    Calls Tryd.prog 96 #[.slice A l.length c, .int .i64 N] w (RNat (val l / 2 ^ m) w) := by
  refine calls_b fun g => ?_
  obtain ⟨n1, hn1⟩ : ∃ n : Nat, l.length = n := ⟨_, rfl⟩
  obtain ⟨q, hq⟩ : ∃ q : Nat, m / 32 = q := ⟨_, rfl⟩
  obtain ⟨r, hr⟩ : ∃ r : Nat, m % 32 = r := ⟨_, rfl⟩
  have hr32 : r < 32 := by omega
  have hqi : Int.tdiv (m : Int) 32 = (q : Int) := by rw [Int.tdiv_eq_ediv_of_nonneg (by omega)]; omega
  have hri : Int.tmod (m : Int) 32 = (r : Int) := by rw [Int.tmod_eq_emod_of_nonneg (by omega)]; omega
  have hZ := Lib.hid (down_zero (m := m) h.ok)
  have hD : Hid (val l / 2 ^ m = val (l.drop q) / 2 ^ r) := Lib.hid (by rw [div_pow_split, hq, hr, val_div l h.ok])
  have hmx := h.len
  have hmxx := h.max
  have hcp := h.cap
  have hq9 : q ≤ 1000000000 := by omega
  by_cases hqn : l.length ≤ q
  · have hz := hZ.out (by omega)
    rw [hz]
    clear hZ hD
    rw [hn1] at hqn ⊢
    have hn1' : n1 ≤ 140737488355328 := by omega
    clear hn1 hq hr
    have hm' : (m : Int) ≤ 1000000000 := by omega
    generalize (m : Int) = mi at *
    go_enter Tryd.func96, Tryd.ntmps96
    go_wp2_with (with_reducible refine G.any_mark _ ?_; (try generalize Array.size (World.heap (G.w _)) = bk); (try dsimp only [List.set_cons_zero, List.set_cons_succ]); (try clear g); intro g)
    go_ret
    exact ⟨none, 0, _, by simp only [limbs_zero]; rfl, by simp only [limbs_zero]; exact Frag.Sl.nil _ _, g.none⟩
  · obtain ⟨n, hn⟩ : ∃ n : Nat, n1 - q = n := ⟨_, rfl⟩
    have hqn' : q < n1 := by omega
    have HQ3 : decide (n1 ≤ q) = false := by rw [decide_eq_false_iff_not]; omega
    have hqni : ¬ ((n1 : Int) ≤ (q : Int)) := by omega
    have hmk : ∀ w, (Instr.makeSlice 24 (.int .i64 (n : Int)) (.int .i64 (n : Int))).run Tryd.prog w = .ok (.slice (some ⟨w.heap.size, 0, none⟩) n n) (w.alloc (.cells (u32s (List.replicate n 0)).toArray 39)) := fun w => make_nat n (by omega) w
    obtain ⟨b, o, rfl, _⟩ := lim_cells h.lim (by omega)
    have hld := sl_drop h q (by omega)
    have hok := h.ok
    obtain ⟨l', hl'⟩ : ∃ l', l.drop q = l' := ⟨_, rfl⟩
    rw [hl'] at hld hD
    have hll : l'.length = n := by rw [← hl', List.length_drop]; omega
    have hok' : Ok l' := by rw [← hl']; exact hok.drop q
    have HLL := Lib.hid hll
    have ha1 : l'.length ≤ n := by omega
    have ha2 : n ≤ l'.length := by omega
    have hsubn : n1 - q = n := hn
    have hn' : n ≤ 1000000000 := by omega
    rw [hn1]
    have hn1' : n1 ≤ 1000000000 := by omega
    have hcq : (q : Int) ≤ (n1 : Int) := by omega
    have hcq2 : n1 ≤ c := by omega
    have CLL := Lib.hid (fun k (hk : k ≤ 1000000001) w h => rlimb_any (some ⟨b, o + q, none⟩) (c - q) l' k w h (by omega))
    rw [hll] at CLL
    clear hn1 hq hr hZ hn hqn hl hl' hll
    have hm' : (m : Int) ≤ 1000000000 := by omega
    rw [hD.out]
    clear hm hD
    generalize (m : Int) = mi at *
    go_enter Tryd.func96, Tryd.ntmps96
    go_wp2_with (with_reducible refine G.any_mark _ ?_; (try generalize Array.size (World.heap (G.w _)) = bk); (try dsimp only [List.set_cons_zero, List.set_cons_succ]); (try clear g); intro g)
    go_loopg [6] n (fun gk i wr => ∃ (k : Nat) (pre : List Nat), k + gk = n ∧ i = .int .i64 k ∧ Hid (pre.length = k ∧ Ok pre ∧ val pre = val l' / 2 ^ r % 4294967296 ^ k) ∧ ∃ g : G w [] [(bk, 39, u32s (pre ++ List.replicate (n - k) 0))] [heapOf w], wr = g.w)
    case atStart => exact ⟨0, [], by omega, rfl, ⟨rfl, Ok.nil, by simp [val, Nat.mod_one]⟩, g, rfl⟩
    case round =>
      clear g hmk
      obtain ⟨k, pre, hkg, rfl, HI, g, rfl⟩ := hrel
      by_cases hk2 : k < n
      · have hx := hok'.getD k
        have hy := hok'.getD (k + 1)
        have hpl := u32s_zero_at HI.out.1 hk2
        have dl := down_limb hok' k r hr32
        have st := Lib.hid (low_step HI.out.1 HI.out.2.2 dl)
        have hq := Lib.hid (set_zeros' HI.out.1 hk2 ((l'.getD k 0 + 4294967296 * l'.getD (k + 1) 0) / 2 ^ r % 4294967296))
        have CL1 := Lib.hid (CLL.out k (by omega))
        have CL2 := Lib.hid (CLL.out (k + 1) (by omega))
        have hr : (l'.getD k 0 + 4294967296 * l'.getD (k + 1) 0) / 2 ^ r % 4294967296 < 4294967296 := Nat.mod_lt _ (by decide)
        clear dl
        generalize l'.getD k 0 = x at *
        generalize l'.getD (k + 1) 0 = y at *
        obtain ⟨t, htt⟩ : ∃ t, x + 4294967296 * y = t := ⟨_, rfl⟩
        have hor : bits .or .u64 (x : Int) ((y : Int) * 4294967296) = (t : Int) := by
          rw [show (y : Int) * 4294967296 = ((4294967296 * y : Nat) : Int) by omega, K3.or64_add _ _ 32 (by omega) (by omega) (by omega) (by omega)]
          omega
        have ht : t < 18446744073709551616 := by omega
        rw [htt] at st hq hr
        obtain ⟨z, hz⟩ : ∃ z, t / 2 ^ r % 4294967296 = z := ⟨_, rfl⟩
        rw [hz] at st hq hr
        have HE : Hid (bits .or .u64 (x : Int) ((y : Int) * 4294967296) / 2 ^ r % 4294967296 = (z : Int)) := Lib.hid (by
          rw [hor, ← hz, show (t : Int) / 2 ^ r = ((t / 2 ^ r : Nat) : Int) by rw [Int.natCast_ediv, Int.natCast_pow]; rfl]
          omega)
        clear hz hor ht htt
        have hpr : (pre ++ [z]).length = k + 1 := by rw [List.length_append, HI.out.1]; rfl
        have HI2 : Hid ((pre ++ [z]).length = k + 1 ∧ Ok (pre ++ [z]) ∧ val (pre ++ [z]) = val l' / 2 ^ r % 4294967296 ^ (k + 1)) := Lib.hid ⟨hpr, HI.out.2.1.append (Ok.cons hr Ok.nil), st.out⟩
        have hkn : (k : Int) < (n : Int) := by omega
        have hk1 : IntKind.i64.wrap ((k : Int) + 1) = (k : Int) + 1 := by rw [IntKind.wrap_i64]; omega
        have hc1 : ((k + 1 : Nat) : Int) = (k : Int) + 1 := by omega
        rw [hc1] at CL2
        have hr0 : ¬ ((r : Int) < 0) := by omega
        have hr1 : (0 : Int) ≤ (r : Int) := by omega
        have hgk : 0 < gk := by omega
        clear hpr hc1
        go_wp2_with (with_reducible refine G.any_mark _ ?_; (try generalize Array.size (World.heap (G.w _)) = bk); (try dsimp only [List.set_cons_zero, List.set_cons_succ]); (try clear g); intro g)
        refine (CL1.out _ (G.sl g (by simp) hld)).mono ?_
        rintro e w1 ⟨rfl, rfl⟩
        go_wp2_with (with_reducible refine G.any_mark _ ?_; (try generalize Array.size (World.heap (G.w _)) = bk); (try dsimp only [List.set_cons_zero, List.set_cons_succ]); (try clear g); intro g)
        refine (CL2.out _ (G.sl g (by simp) hld)).mono ?_
        rintro e w1 ⟨rfl, rfl⟩
        go_wp2_with (with_reducible refine G.any_mark _ ?_; (try generalize Array.size (World.heap (G.w _)) = bk); (try dsimp only [List.set_cons_zero, List.set_cons_succ]); (try clear g); intro g)
        obtain ⟨g2, hg2⟩ := g.as (by rw [HE.out, u32s_set, hq.out])
        go_roundg (gk - 1)
        case measure => omega
        case rel => exact ⟨k + 1, pre ++ [z], by omega, by go_num, HI2, g2, hg2⟩
      · obtain rfl : k = n := by omega
        have e1 := down_end hok' (n := k) (by omega) HI.out.2.2
        obtain ⟨g2, hg2⟩ := g.as (M' := [(bk, 39, u32s pre)]) (by rw [Nat.sub_self, List.replicate_zero, List.append_nil])
        rw [hg2]
        clear hg2 g
        revert g2
        intro g
        have E1 := Lib.hid e1
        clear e1
        have hp := HI.out.1
        have hok2 := HI.out.2.1
        have hkn : ¬ ((k : Int) < (k : Int)) := by omega
        clear HI HLL
        subst hp
        have hsl : SlW g.w (some ⟨bk, 0, none⟩) pre.length pre := (sl_blk (Nat.le_refl _) (by omega) hok2).at (blkF_sub g.blk0)
        go_wp2_with (with_reducible refine G.any_mark _ ?_; (try generalize Array.size (World.heap (G.w _)) = bk); (try dsimp only [List.set_cons_zero, List.set_cons_succ]); (try clear g); intro g)
        refine (rtrim_any _ _ pre _ hsl).mono ?_
        rintro e w1 ⟨rfl, hb⟩
        obtain ⟨g1, rfl⟩ := G.call_ex _ hb
        clear hb hsl g
        revert g1
        intro g
        go_wp2_with (with_reducible refine G.any_mark _ ?_; (try generalize Array.size (World.heap (G.w _)) = bk); (try dsimp only [List.set_cons_zero, List.set_cons_succ]); (try clear g); intro g)
        go_ret
        exact rnat_end g (List.mem_cons_self ..) hok2 (Nat.le_refl _) (by omega) E1.out
end Go.Proofs.YtjdnpkicdmapnaaDoor
namespace Go.Proofs.YtjdnpkicdmapnaaDoor
open Go.RowKit GW NL
/-- what Bits returns -/
def outB (e : Int) (v : Nat) : Int × Int := if e ≠ 0 then (0, e) else ((nb v : Int), 0)
end Go.Proofs.YtjdnpkicdmapnaaDoor
namespace Go.Proofs.YtjdnpkicdmapnaaDoor
open Go.RowKit GW NL
/-- what Int returns -/
def outI (e : Int) (v : Nat) : Int × Int := if e ≠ 0 then (0, e) else if 63 < nb v then (0, 5) else ((v : Int), 0)
theorem two_parts {l : List Nat} (h : Ok l) (hv : val l < 9223372036854775808) : l.getD 0 0 = val l % 4294967296 ∧ l.getD 1 0 = val l / 4294967296 := by
  have h0 := getD_val l h 0
  have h1 := getD_val l h 1
  rw [Nat.pow_zero, Nat.div_one] at h0
  rw [Nat.pow_one, Nat.mod_eq_of_lt (by omega)] at h1
  exact ⟨h0, h1⟩
theorem drop_lt {l : List Nat} (h : Ok l) (k : Nat) (hv : val l < 9223372036854775808) : val (l.drop (k + 1)) * 4294967296 + l.getD k 0 < 9223372036854775808 := by
  have := val_drop_getD l k
  have h2 := val_div l h k
  have := Nat.div_le_self (val l) (4294967296 ^ k)
  omega
set_option maxRecDepth 20000 in
theorem rInt_any (A : Option Addr) (c : Nat) (l : List Nat) (w : World) (h : SlW w A c l) :
    Calls Tryd.prog 63 #[.slice A l.length c] w fun e w' => e = .returned (.tuple #[.int .i64 (outI (chk l) (val l)).1, .int .i64 (outI (chk l) (val l)).2]) ∧ Below w.heap.size w w' := by
  refine calls_b fun g => ?_
  have CK := Lib.hid (fun w h => rcheck_any A c l w h)
  by_cases hx : chk l = 0
  · obtain ⟨e1, b1, n1'⟩ := chk_ok h.ok hx
    have CBt := Lib.hid (fun w h => rbits_any A c (val l) w h (by rw [← e1]; omega))
    rw [← e1] at CBt
    by_cases h63 : 63 < nb (val l)
    · have hO : outI (chk l) (val l) = (0, 5) := by unfold outI; rw [if_neg (by simpa using hx), if_pos h63]
      rw [hO]
      rw [hx] at CK
      have h63i : (63 : Int) < (nb (val l) : Nat) := by omega
      clear hx e1 b1 n1' hO h63
      generalize nb (val l) = v at *
      generalize l.length = n at *
      go_enter Tryd.func63, Tryd.ntmps63
      go_wp2_with (with_reducible refine G.any_mark _ ?_; (try generalize Array.size (World.heap (G.w _)) = bk); (try dsimp only [List.set_cons_zero, List.set_cons_succ]); (try clear g); intro g)
      refine (CK.out _ (G.sl g (by simp) h)).mono ?_
      rintro e w1 ⟨rfl, hb⟩
      obtain ⟨g1, rfl⟩ := G.call_ex _ hb
      clear hb
      (try clear g)
      revert g1
      intro g
      go_wp2_with (with_reducible refine G.any_mark _ ?_; (try generalize Array.size (World.heap (G.w _)) = bk); (try dsimp only [List.set_cons_zero, List.set_cons_succ]); (try clear g); intro g)
      refine (CBt.out _ (G.sl g (by simp) h)).mono ?_
      rintro e w1 ⟨rfl, hb⟩
      obtain ⟨g1, rfl⟩ := G.call_ex _ hb
      clear hb
      (try clear g)
      revert g1
      intro g
      go_wp2_with (with_reducible refine G.any_mark _ ?_; (try generalize Array.size (World.heap (G.w _)) = bk); (try dsimp only [List.set_cons_zero, List.set_cons_succ]); (try clear g); intro g)
      go_ret2
      exact ⟨rfl, g.below⟩
    · have hO : outI (chk l) (val l) = ((val l : Int), 0) := by unfold outI; rw [if_neg (by simpa using hx), if_neg h63]
      have hv : val l < 9223372036854775808 := by
        have := (nb_le (val l) 63).1 (by omega)
        simpa using this
      have hok := h.ok
      rw [hO]
      rw [hx] at CK
      have h63i : ¬ ((63 : Int) < (nb (val l) : Nat)) := by omega
      have HV := Lib.hid hv
      have n9 : l.length ≤ 256 := n1'
      clear hx e1 b1 n1' hO h63 hv
      generalize nb (val l) = v at *
      obtain ⟨n, hn⟩ : ∃ n, l.length = n := ⟨_, rfl⟩
      rw [hn] at CK CBt n9 ⊢
      have HN := Lib.hid hn
      clear hn
      go_enter Tryd.func63, Tryd.ntmps63
      go_wp2_with (with_reducible refine G.any_mark _ ?_; (try generalize Array.size (World.heap (G.w _)) = bk); (try dsimp only [List.set_cons_zero, List.set_cons_succ]); (try clear g); intro g)
      refine (CK.out _ (G.sl g (by simp) h)).mono ?_
      rintro e w1 ⟨rfl, hb⟩
      obtain ⟨g1, rfl⟩ := G.call_ex _ hb
      clear hb
      (try clear g)
      revert g1
      intro g
      go_wp2_with (with_reducible refine G.any_mark _ ?_; (try generalize Array.size (World.heap (G.w _)) = bk); (try dsimp only [List.set_cons_zero, List.set_cons_succ]); (try clear g); intro g)
      refine (CBt.out _ (G.sl g (by simp) h)).mono ?_
      rintro e w1 ⟨rfl, hb⟩
      obtain ⟨g1, rfl⟩ := G.call_ex _ hb
      clear hb
      (try clear g)
      revert g1
      intro g
      go_wp2_with (with_reducible refine G.any_mark _ ?_; (try generalize Array.size (World.heap (G.w _)) = bk); (try dsimp only [List.set_cons_zero, List.set_cons_succ]); (try clear g); intro g)
      go_loopg [5, 6] n (fun gk s5 s6 wr => gk ≤ n ∧ s6 = .int .i64 ((gk : Int) - 1) ∧ s5 = .int .i64 ((val (l.drop gk) : Nat) : Int) ∧ ∃ g : G w [] [] [heapOf w], wr = g.w)
      case atStart => exact ⟨Nat.le_refl _, rfl, by rw [List.drop_of_length_le (by rw [HN.out]; exact Nat.le_refl _)]; rfl, g, rfl⟩
      case round =>
        clear g CBt CK
        obtain ⟨hg, rfl, rfl, g, rfl⟩ := hrel
        cases gk with
        | zero =>
          have HZ : Hid (val (l.drop 0) = val l) := Lib.hid (by rw [List.drop_zero])
          generalize val (l.drop 0) = O at *
          go_wp2_with (with_reducible refine G.any_mark _ ?_; (try generalize Array.size (World.heap (G.w _)) = bk); (try dsimp only [List.set_cons_zero, List.set_cons_succ]); (try clear g); intro g)
          go_ret2
          exact ⟨ret_tup2 (by rw [HZ.out]) rfl, g.below⟩
        | succ k =>
          rw [show ((k + 1 : Nat) : Int) - 1 = (k : Int) by omega]
          obtain ⟨b, o, rfl, hcell⟩ := lim_cells h.lim (by rw [HN.out]; omega)
          have e0 := hcell k (by rw [HN.out]; omega) _ _ _ _ g (by simp)
          clear hcell
          have hd := drop_lt hok k HV.out
          have hdv := val_drop_getD l k
          have hX := hok.getD k
          have hki : (k : Int) < (n : Int) := by omega
          have hk0 : (0 : Int) ≤ (k : Int) := by omega
          generalize val (l.drop (k + 1)) = O at *
          generalize l.getD k 0 = X at *
          obtain ⟨O2, hO2⟩ : ∃ O2, val (l.drop k) = O2 := ⟨_, rfl⟩
          rw [hO2] at hdv
          have hor : bits .or .i64 ((O : Int) * 4294967296) (X : Int) = (O2 : Int) := by
            rw [show (O : Int) * 4294967296 = ((O * 4294967296 : Nat) : Int) by omega, K3.or_i64_comm, K3.or_i64_add _ _ 32 (by omega) (by omega) (by omega) (by omega)]
            omega
          have hw2 : IntKind.i64.wrap (X : Int) = (X : Int) := by rw [IntKind.wrap_i64]; omega
          have hw3 : IntKind.i64.wrap ((O : Int) * 4294967296) = (O : Int) * 4294967296 := by rw [IntKind.wrap_i64]; omega
          have HO2 := Lib.hid hO2
          clear hO2 hdv hd
          go_wp2_with (with_reducible refine G.any_mark _ ?_; (try generalize Array.size (World.heap (G.w _)) = bk); (try dsimp only [List.set_cons_zero, List.set_cons_succ]); (try clear g); intro g)
          go_roundg k
          case measure => omega
          case rel => exact ⟨by omega, rfl, by rw [HO2.out], g, rfl⟩
  · have hx' : (chk l == 0) = false := by simpa using hx
    have hO : outI (chk l) (val l) = (0, chk l) := by unfold outI; rw [if_pos hx]
    rw [hO]
    clear hO hx
    generalize chk l = r at *
    generalize l.length = n at *
    go_enter Tryd.func63, Tryd.ntmps63
    go_wp2_with (with_reducible refine G.any_mark _ ?_; (try generalize Array.size (World.heap (G.w _)) = bk); (try dsimp only [List.set_cons_zero, List.set_cons_succ]); (try clear g); intro g)
    refine (CK.out _ (G.sl g (by simp) h)).mono ?_
    rintro e w1 ⟨rfl, hb⟩
    obtain ⟨g1, rfl⟩ := G.call_ex _ hb
    clear hb
    (try clear g)
    revert g1
    intro g
    go_wp2_with (with_reducible refine G.any_mark _ ?_; (try generalize Array.size (World.heap (G.w _)) = bk); (try dsimp only [List.set_cons_zero, List.set_cons_succ]); (try clear g); intro g)
    go_ret2
    exact ⟨rfl, g.below⟩
end Go.Proofs.YtjdnpkicdmapnaaDoor
namespace Go.Proofs.YtjdnpkicdmapnaaDoor
open Go.RowKit GW NL
theorem Row.pre {T : TypeId} {n m cap : Nat} {xs : List Nat} {cs : List Value} (h : Row T 1 n (u32s xs) cap cs) (hm : m ≤ n) : Row T 1 m (u32s (xs.take m)) cap cs := by
  have hx := h.xl
  rw [u32s_len] at hx
  refine ⟨Nat.le_trans hm h.le, h.max, h.len, ?_, by rw [u32s_len, List.length_take]; omega⟩
  have ht := h.take
  rw [Nat.mul_one] at ht ⊢
  have : cs.take m = (cs.take n).take m := by rw [List.take_take, Nat.min_eq_left hm]
  rw [this, ht]
  simp [u32s, List.map_take]
theorem ret_bool {a a' : Bool} (h : a = a') : Ending.returned (.bool a) = .returned (.bool a') := by rw [h]
theorem rbelow_any (A1 A2 : Option Addr) (c1 c2 n : Nat) (l1 l2 : List Nat) (w : World) (h1 : SlW w A1 c1 l1) (h2 : SlW w A2 c2 l2) (hn1 : l1.length = n) (hn2 : l2.length = n) (hn9 : n ≤ 1000000000) :
    Calls Tryd.prog 97 #[.slice A1 n c1, .slice A2 n c2] w fun e w' => e = .returned (.bool (decide (val l1 < val l2))) ∧ w = w' := by
  have o1 := h1.ok
  have o2 := h2.ok
  have CL1 := Lib.hid (fun k (hk : k ≤ 1000000001) w h => rlimb_any A1 c1 l1 k w h (by omega))
  have CL2 := Lib.hid (fun k (hk : k ≤ 1000000001) w h => rlimb_any A2 c2 l2 k w h (by omega))
  rw [hn1] at CL1
  rw [hn2] at CL2
  have H1 := Lib.hid hn1
  have H2 := Lib.hid hn2
  clear hn1 hn2
  go_enter Tryd.func97, Tryd.ntmps97
  go_wp2_with fail
  go_loopg [5] n (fun gk s5 wr => gk ≤ n ∧ s5 = .int .i64 ((gk : Int) - 1) ∧ Hid (∀ j, gk ≤ j → j < n → l1.getD j 0 = l2.getD j 0) ∧ wr = w)
  case atStart => exact ⟨Nat.le_refl _, rfl, fun j h1 h2 => by omega, rfl⟩
  case round =>
    obtain ⟨hg, rfl, HE, rfl⟩ := hrel
    cases gk with
    | zero =>
      have he : l1 = l2 := eq_of_all (by rw [H1.out, H2.out]) fun j hj => HE.out j (Nat.zero_le _) (by rw [← H1.out]; exact hj)
      have HO : Hid (decide (val l1 < val l2) = false) := Lib.hid (decide_eq_false (by rw [he]; omega))
      clear he
      go_wp2_with fail
      go_ret
      exact ⟨ret_bool HO.out.symm, rfl⟩
    | succ k =>
      rw [show ((k + 1 : Nat) : Int) - 1 = (k : Int) by omega]
      have CLa := Lib.hid (CL1.out k (by omega))
      have CLb := Lib.hid (CL2.out k (by omega))
      have HAT : Hid (∀ hne, ord (val l1) (val l2) = ord (l1.getD k 0) (l2.getD k 0)) := Lib.hid (fun hne => ord_at o1 o2 (by rw [H1.out, H2.out]) (k := k) (by rw [H1.out]; omega) (fun j hj hj2 => HE.out j (by omega) (by rw [← H1.out]; exact hj2)) hne)
      obtain ⟨x, hx⟩ : ∃ x, l1.getD k 0 = x := ⟨_, rfl⟩
      obtain ⟨y, hy⟩ : ∃ y, l2.getD k 0 = y := ⟨_, rfl⟩
      rw [hx] at CLa HAT
      rw [hy] at CLb HAT
      have HX := Lib.hid hx
      have HY := Lib.hid hy
      clear hx hy
      by_cases hxy : x = y
      · subst hxy
        clear HAT
        go_wp2_with fail
        refine (CLa.out _ h1).mono ?_
        rintro e w1 ⟨rfl, rfl⟩
        go_wp2_with fail
        refine (CLb.out _ h2).mono ?_
        rintro e w1 ⟨rfl, rfl⟩
        go_wp2_with fail
        go_roundg k
        case measure => omega
        case rel => exact ⟨by omega, rfl, fun j hj1 hj2 => by
          rcases Nat.lt_or_ge k j with h | h
          · exact HE.out j (by omega) hj2
          · obtain rfl : j = k := by omega
            rw [HX.out, HY.out], rfl⟩
      · have hne : ((x : Int) == (y : Int)) = false := by rw [beq_eq_false_iff_ne]; omega
        have hne2 : ¬ ((x : Int) = (y : Int)) := by omega
        have HO : Hid (decide (val l1 < val l2) = decide ((x : Int) < (y : Int))) := Lib.hid (by
          have := HAT.out hxy
          apply decide_eq_decide.2
          unfold ord at this
          constructor
          · intro h
            rw [if_pos h] at this
            split at this
            · omega
            · split at this <;> omega
          · intro h
            rw [if_pos (show x < y by omega)] at this
            split at this
            · assumption
            · split at this <;> omega)
        clear HAT hxy
        go_wp2_with fail
        refine (CLa.out _ h1).mono ?_
        rintro e w1 ⟨rfl, rfl⟩
        go_wp2_with fail
        refine (CLb.out _ h2).mono ?_
        rintro e w1 ⟨rfl, rfl⟩
        go_wp2_with fail
        refine (CLa.out _ h1).mono ?_
        rintro e w1 ⟨rfl, rfl⟩
        go_wp2_with fail
        refine (CLb.out _ h2).mono ?_
        rintro e w1 ⟨rfl, rfl⟩
        go_wp2_with fail
        go_ret
        exact ⟨ret_bool (by rw [HO.out]; exact decide_eq_decide.2 (by omega)), rfl⟩
theorem sub_end2 {pre l1 l2 : List Nat} {n c : Nat} (ok : Ok pre) (hp : pre.length = n) (h1 : l1.length = n) (h2 : l2.length = n) (hle : val l2 ≤ val l1) (h : val pre + val (l2.take n) = val (l1.take n) + 4294967296 ^ n * c) : val pre = val l1 - val l2 :=
  (sub_end ok hp (by omega) (by omega) hle h).1
set_option maxRecDepth 20000 in
set_option maxHeartbeats 2000000 in
theorem rtake_any (b n cap : Nat) (cs : List Value) (l1 l2 : List Nat) (A2 : Option Addr) (c2 : Nat) (w : World) (hb : w.heap[b]? = some (.cells cs.toArray 39 (0, 0))) (hrow : Row 39 1 n (u32s l1) cap cs) (h2 : SlW w A2 c2 l2) (hap : Apart A2 b)
    (hn1 : l1.length = n) (hn2 : l2.length = n) (o1 : Ok l1) (hle : val l2 ≤ val l1) (hn9 : n ≤ 1000000000) :
    Calls Tryd.prog 98 #[.slice (some ⟨b, 0, none⟩) n cap, .slice A2 n c2] w fun e w' => e = .returned (.tuple #[]) ∧ Chg [b] w w' ∧ ∃ l' cs', w'.heap[b]? = some (.cells cs'.toArray 39 (0, 0)) ∧ Row 39 1 n (u32s l') cap cs' ∧ l'.length = n ∧ Ok l' ∧ val l' = val l1 - val l2 := by
  have hd := h2.but hap
  have o2 := h2.ok
  refine calls_m hb fun g => ?_
  have CL := Lib.hid (fun k (hk : k ≤ 1000000001) w h => rlimb_any A2 c2 l2 k w h (by omega))
  rw [hn2] at CL
  have H1 := Lib.hid hn1
  have H2 := Lib.hid hn2
  have HLE := Lib.hid hle
  have hle' := hrow.le
  clear hn1 hn2 hle
  go_enter Tryd.func98, Tryd.ntmps98
  go_wp2_with (with_reducible refine G.any_mark _ ?_; (try generalize Array.size (World.heap (G.w _)) = bk); (try dsimp only [List.set_cons_zero, List.set_cons_succ]); (try clear g); intro g)
  go_loopg [4, 5] n (fun gk s4 s5 wr => ∃ (k c : Nat) (pre : List Nat) (cs' : List Value), k + gk = n ∧ s4 = .int .u64 (c : Int) ∧ s5 = .int .i64 (k : Int) ∧ c ≤ 1 ∧ Hid (pre.length = k ∧ Ok pre ∧ val pre + val (l2.take k) = val (l1.take k) + 4294967296 ^ k * c) ∧ Row 39 1 n (u32s (pre ++ l1.drop k)) cap cs' ∧ ∃ g : G w [b] [(b, 39, cs')] [heapBut w b], wr = g.w)
  case atStart => exact ⟨0, 0, [], cs, by omega, rfl, rfl, by omega, ⟨rfl, Ok.nil, by simp [val]⟩, hrow, g, rfl⟩
  case round =>
    clear g hrow
    obtain ⟨k, c, pre, cs', hkg, rfl, rfl, hc1, HA, hrow, g, rfl⟩ := hrel
    by_cases hgo : k < n
    · have HA2 := Lib.hid (sub_step o1 o2 hc1 HA.out.1 HA.out.2.2)
      have CLb := Lib.hid (CL.out k (by omega))
      have hx := o1.getD k
      have hy := o2.getD k
      have hpl := HA.out.1
      have hpo := HA.out.2.1
      have hcell := hrow.get (by rw [List.length_append, List.length_drop, hpl, H1.out]; omega) hgo
      rw [ten_get hpl] at hcell
      have hset := ten_set (xs := l1) (x := (l1.getD k 0 + 4294967296 - l2.getD k 0 - c) % 4294967296) hpl (by rw [H1.out]; exact hgo)
      have hrow2 := hrow.set (x := (l1.getD k 0 + 4294967296 - l2.getD k 0 - c) % 4294967296) hgo
      rw [hset] at hrow2
      generalize l1.getD k 0 = x at *
      generalize l2.getD k 0 = y at *
      obtain ⟨d, hd'⟩ : ∃ d : Nat, ((x : Int) - (y : Int)) % 18446744073709551616 = (d : Int) := ⟨(((x : Int) - (y : Int)) % 18446744073709551616).toNat, by omega⟩
      obtain ⟨t, ht⟩ : ∃ t : Nat, ((d : Int) - (c : Int)) % 18446744073709551616 = (t : Int) := ⟨(((d : Int) - (c : Int)) % 18446744073709551616).toNat, by omega⟩
      have f3 : IntKind.u64.wrap ((x : Int) - (y : Int)) = (d : Int) := by rw [IntKind.wrap_u64]; exact hd'
      have f4 : IntKind.u64.wrap ((d : Int) - (c : Int)) = (t : Int) := by rw [IntKind.wrap_u64]; exact ht
      have f7 : IntKind.u64.wrap (x : Int) = (x : Int) := by rw [IntKind.wrap_u64]; omega
      obtain ⟨lo, hlo⟩ : ∃ lo, (x + 4294967296 - y - c) % 4294967296 = lo := ⟨_, rfl⟩
      obtain ⟨c', hc'⟩ : ∃ c', brw x y c = c' := ⟨_, rfl⟩
      have hb' : (x < y + c ∧ c' = 1) ∨ (y + c ≤ x ∧ c' = 0) := by unfold brw at hc'; split at hc' <;> omega
      have f5 : IntKind.u32.wrap (t : Int) = (lo : Int) := by rw [IntKind.wrap_u32]; omega
      have f6 : (t : Int) / 9223372036854775808 = (c' : Int) := by omega
      have hc1' : c' ≤ 1 := by omega
      have hlo9 : lo < 4294967296 := by omega
      rw [hlo, hc'] at HA2
      rw [hlo] at hrow2
      have HROW := Lib.hid hrow2
      have HA3 : Hid ((pre ++ [lo]).length = k + 1 ∧ Ok (pre ++ [lo]) ∧ val (pre ++ [lo]) + val (l2.take (k + 1)) = val (l1.take (k + 1)) + 4294967296 ^ (k + 1) * c') := Lib.hid ⟨by rw [List.length_append, hpl]; rfl, hpo.append (Ok.cons hlo9 Ok.nil), HA2.out⟩
      have hki : (k : Int) < (n : Int) := by omega
      have hgk : 0 < gk := by omega
      clear hd' ht hlo hc' hb' HA2 hset hrow2 hrow
      go_wp2_with (with_reducible refine G.any_mark _ ?_; (try generalize Array.size (World.heap (G.w _)) = bk); (try dsimp only [List.set_cons_zero, List.set_cons_succ]); (try clear g); intro g)
      go_region_held3 (fun w' => w'.cell? ⟨b, k, none⟩ = some (.int .u32 (x : Int))) ((simp only [G.drew_eq, G.drewN_eq, G.cell0]; exact hcell)) ((go_at_call 112; refine (CLb.out _ (G.sl _ (by simp) hd)).mono ?_; rintro e w1 ⟨rfl, rfl⟩))
      ((try simp only [G.drew_eq, G.drewN_eq]); (refine G.any_mark _ ?_; (try generalize Array.size (World.heap (G.w _)) = bk); (try dsimp only [List.set_cons_zero, List.set_cons_succ]); (try clear g); intro g))
      go_wp2_with (with_reducible refine G.any_mark _ ?_; (try generalize Array.size (World.heap (G.w _)) = bk); (try dsimp only [List.set_cons_zero, List.set_cons_succ]); (try clear g); intro g)
      go_roundg (gk - 1)
      case measure => omega
      case rel => exact ⟨k + 1, c', pre ++ [lo], _, by omega, rfl, by go_num, hc1', HA3, HROW.out, g, rfl⟩
    · obtain rfl : k = n := by omega
      obtain ⟨hpl, hpo, heq⟩ := HA.out
      have HEND := Lib.hid (sub_end2 hpo hpl H1.out H2.out HLE.out heq)
      rw [List.drop_of_length_le (by rw [H1.out]; exact Nat.le_refl _), List.append_nil] at hrow
      have hki : ¬ ((k : Int) < (k : Int)) := by omega
      have HROW := Lib.hid hrow
      have HPL := Lib.hid hpl
      clear hpl heq hrow
      go_wp2_with (with_reducible refine G.any_mark _ ?_; (try generalize Array.size (World.heap (G.w _)) = bk); (try dsimp only [List.set_cons_zero, List.set_cons_succ]); (try clear g); intro g)
      go_end0
      exact ⟨rfl, g.chg, pre, cs', g.blk0, HROW.out, HPL.out, hpo, HEND.out⟩
end Go.Proofs.YtjdnpkicdmapnaaDoor
namespace Go.Proofs.YtjdnpkicdmapnaaDoor
open Go.RowKit GW NL
set_option maxRecDepth 20000 in
set_option maxHeartbeats 4000000 in
theorem rhalve_any (b n cap : Nat) (cs : List Value) (l : List Nat) (w : World) (hb : w.heap[b]? = some (.cells cs.toArray 39 (0, 0))) (hrow : Row 39 1 n (u32s l) cap cs)
    (hn1 : l.length = n) (o1 : Ok l) (hn9 : n ≤ 1000000000) :
    Calls Tryd.prog 99 #[.slice (some ⟨b, 0, none⟩) n cap] w fun e w' => e = .returned (.tuple #[]) ∧ Chg [b] w w' ∧ ∃ l' cs', w'.heap[b]? = some (.cells cs'.toArray 39 (0, 0)) ∧ Row 39 1 n (u32s l') cap cs' ∧ l'.length = n ∧ Ok l' ∧ val l' = val l / 2 := by
  refine calls_m hb fun g => ?_
  have H1 := Lib.hid hn1
  have hle' := hrow.le
  clear hn1
  go_enter Tryd.func99, Tryd.ntmps99
  go_wp2_with (with_reducible refine G.any_mark _ ?_; (try generalize Array.size (World.heap (G.w _)) = bk); (try dsimp only [List.set_cons_zero, List.set_cons_succ]); (try clear g); intro g)
  go_loopg [2] n (fun gk s2 wr => ∃ (k : Nat) (pre : List Nat) (cs' : List Value), k + gk = n ∧ s2 = .int .i64 (k : Int) ∧ Hid (pre.length = k ∧ Ok pre ∧ val pre = val l / 2 ^ 1 % 4294967296 ^ k) ∧ Row 39 1 n (u32s (pre ++ l.drop k)) cap cs' ∧ ∃ g : G w [b] [(b, 39, cs')] [heapBut w b], wr = g.w)
  case atStart => exact ⟨0, [], cs, by omega, rfl, ⟨rfl, Ok.nil, by simp [val, Nat.mod_one]⟩, hrow, g, rfl⟩
  case round =>
    clear g hrow
    obtain ⟨k, pre, cs', hkg, rfl, HA, hrow, g, rfl⟩ := hrel
    by_cases hgo : k < n
    · have hpl := HA.out.1
      have hpo := HA.out.2.1
      have dl := down_limb o1 k 1 (by decide)
      have st := low_step hpl HA.out.2.2 dl
      have hlen : (pre ++ l.drop k).length = n := by rw [List.length_append, List.length_drop, hpl, H1.out]; omega
      have hcell := hrow.get hlen hgo
      rw [ten_get hpl] at hcell
      have hset := ten_set (xs := l) (x := (l.getD k 0 + 4294967296 * l.getD (k + 1) 0) / 2 ^ 1 % 4294967296) hpl (by rw [H1.out]; exact hgo)
      have hrow2 := hrow.set (x := (l.getD k 0 + 4294967296 * l.getD (k + 1) 0) / 2 ^ 1 % 4294967296) hgo
      rw [hset] at hrow2
      have hsl := fun (g : G w [b] [(b, 39, cs')] [heapBut w b]) => (sl_row (b := b) hrow hlen (by omega) (hpo.append (o1.drop k))).at (blkF_sub g.blk0)
      have hgd : (pre ++ l.drop k).getD (k + 1) 0 = l.getD (k + 1) 0 := by
        rw [List.getD_eq_getElem?_getD, List.getElem?_append_right (by omega), hpl, List.getElem?_drop, show k + (k + 1 - k) = k + 1 by omega, ← List.getD_eq_getElem?_getD]
      have CL := Lib.hid (fun w h => rlimb_any (some ⟨b, 0, none⟩) cap (pre ++ l.drop k) (k + 1) w h (by omega))
      rw [hgd, hlen] at CL
      have hx := o1.getD k
      have hy := o1.getD (k + 1)
      generalize l.getD k 0 = x at *
      generalize l.getD (k + 1) 0 = y at *
      obtain ⟨lo, hlo⟩ : ∃ lo, (x + 4294967296 * y) / 2 ^ 1 % 4294967296 = lo := ⟨_, rfl⟩
      rw [hlo] at st hrow2
      obtain ⟨xh, hxh⟩ : ∃ xh, x / 2 = xh := ⟨_, rfl⟩
      obtain ⟨yt, hyt⟩ : ∃ yt, y * 2147483648 % 4294967296 = yt := ⟨_, rfl⟩
      have hlo2 : yt + xh = lo := by rw [Nat.pow_one] at hlo; omega
      have hor : bits .or .u32 (xh : Int) (yt : Int) = (lo : Int) := by
        rw [K3.or32_add _ _ 31 (by omega) (by omega) (by omega) (by omega), hlo2]
      have f1 : (x : Int) / 2 = (xh : Int) := by omega
      have f2 : IntKind.u32.wrap ((y : Int) * 2147483648) = (yt : Int) := by rw [IntKind.wrap_u32]; omega
      have f3 : IntKind.u64.wrap ((y : Int) * 2147483648) = (y : Int) * 2147483648 := by rw [IntKind.wrap_u64]; omega
      have f4 : (y : Int) * 2147483648 % 4294967296 = (yt : Int) := by omega
      have hlo9 : lo < 4294967296 := by rw [← hlo]; exact Nat.mod_lt _ (by decide)
      have HROW := Lib.hid hrow2
      have HA2 : Hid ((pre ++ [lo]).length = k + 1 ∧ Ok (pre ++ [lo]) ∧ val (pre ++ [lo]) = val l / 2 ^ 1 % 4294967296 ^ (k + 1)) := Lib.hid ⟨by rw [List.length_append, hpl]; rfl, hpo.append (Ok.cons hlo9 Ok.nil), st⟩
      have HSL := Lib.hid hsl
      have hki : (k : Int) < (n : Int) := by omega
      have hk1 : IntKind.i64.wrap ((k : Int) + 1) = (k : Int) + 1 := by rw [IntKind.wrap_i64]; omega
      have hc1 : ((k + 1 : Nat) : Int) = (k : Int) + 1 := by omega
      rw [hc1] at CL
      have hgk : 0 < gk := by omega
      clear hlo hxh hyt hlo2 hset hrow2 hrow hgd hlen dl st hsl hc1
      go_wp2_with (with_reducible refine G.any_mark _ ?_; (try generalize Array.size (World.heap (G.w _)) = bk); (try dsimp only [List.set_cons_zero, List.set_cons_succ]); (try clear g); intro g)
      go_region_with ((go_at_call 112; refine (CL.out _ (HSL.out _)).mono ?_; rintro e w1 ⟨rfl, rfl⟩))
      all_goals ((try simp only [G.drew_eq, G.drewN_eq]); (refine G.any_mark _ ?_; (try generalize Array.size (World.heap (G.w _)) = bk); (try dsimp only [List.set_cons_zero, List.set_cons_succ]); (try clear g); intro g))
      all_goals go_wp2_with (with_reducible refine G.any_mark _ ?_; (try generalize Array.size (World.heap (G.w _)) = bk); (try dsimp only [List.set_cons_zero, List.set_cons_succ]); (try clear g); intro g)
      all_goals go_roundg (gk - 1)
      all_goals first | omega | exact ⟨k + 1, pre ++ [lo], _, by omega, by go_num, HA2, HROW.out, g, rfl⟩
    · obtain rfl : k = n := by omega
      obtain ⟨hpl, hpo, heq⟩ := HA.out
      have hend := down_end (s := 1) o1 (n := k) (by rw [H1.out]; exact Nat.le_refl _) heq
      rw [Nat.pow_one] at hend
      rw [List.drop_of_length_le (by rw [H1.out]; exact Nat.le_refl _), List.append_nil] at hrow
      have hki : ¬ ((k : Int) < (k : Int)) := by omega
      have HROW := Lib.hid hrow
      have HPL := Lib.hid hpl
      have HEND := Lib.hid hend
      clear hpl heq hrow hend
      go_wp2_with (with_reducible refine G.any_mark _ ?_; (try generalize Array.size (World.heap (G.w _)) = bk); (try dsimp only [List.set_cons_zero, List.set_cons_succ]); (try clear g); intro g)
      go_end0
      exact ⟨rfl, g.chg, pre, cs', g.blk0, HROW.out, HPL.out, hpo, HEND.out⟩
end Go.Proofs.YtjdnpkicdmapnaaDoor
namespace Go.Proofs.YtjdnpkicdmapnaaDoor
open Go.RowKit GW NL
/-- What is returned reads as the limbs l, in a block of its own that may be written. -/
def ROwn (l : List Nat) (w : World) (e : Ending) (w' : World) : Prop := ∃ b cap cs, e = .returned (.slice (some ⟨b, 0, none⟩) l.length cap) ∧ Row 39 1 l.length (u32s l) cap cs ∧ Below w.heap.size w w' ∧ w.heap.size ≤ b ∧ w'.heap[b]? = some (.cells cs.toArray 39 (0, 0))
theorem own_own (A : Option Addr) (c : Nat) (l : List Nat) (w : World) (h : SlW w A c l) (hl9 : l.length ≤ 35184372088832) (hl : 0 < l.length) :
    Calls Tryd.prog 65 #[.slice A l.length c] w (ROwn l w) := by
  refine calls_b fun g => ?_
  obtain ⟨b, o, rfl, _⟩ := lim_cells h.lim hl
  have hnews := fun (M : List Blk) (g : G w [] M [heapOf w]) => lim_news g (List.mem_cons_self ..) h.lim
  obtain ⟨n, hn⟩ : ∃ n, l.length = n := ⟨_, rfl⟩
  rw [hn] at hl hl9 ⊢
  have HN := Lib.hid hn
  clear hn
  obtain ⟨i0, hi, hz0, hz1, hz2⟩ := info_parts infoU32
  go_enter Tryd.func65, Tryd.ntmps65
  go_wp2_with (first | (with_reducible refine G.any_mark _ ?_; (try generalize Array.size (World.heap (G.w _)) = bk); (try dsimp only [List.set_cons_zero, List.set_cons_succ]); (try clear g); intro g) | (at_builtin; refine wpList_append_e rfl _ _ 22 rfl 39 i0 _ 1 4 Tryd.underlying22 hi hz0 hz1 hz2 rfl (by decide) g (by exact g.fresh (List.mem_cons_self ..)) rfl ⟨b, o, none⟩ n c (u32s l) rfl (by rw [u32s_len, HN.out, Nat.mul_one]) (hnews _ g) (u32s_one l) hl (by show n ≤ 9223372036854775807; omega) (by omega) ?_; intro b2 cap cs g hb2 hr))
  go_ret
  exact ⟨b2, cap, cs, ret_slice HN.out.symm, by rw [HN.out]; exact hr, g.below, hb2, g.blk0⟩
set_option maxRecDepth 20000 in
set_option maxHeartbeats 2000000 in
theorem rshift_own (A : Option Addr) (c : Nat) (l : List Nat) (s : Nat) (w : World) (h : SlW w A c l) (hl : l.length ≤ 1000000000) (hs : s ≤ 1000000000) :
    Calls Tryd.prog 96 #[.slice A l.length c, .int .i64 (s : Int)] w (ROwn (limbs (val l * 2 ^ s)) w) := by
  refine calls_b fun g => ?_
  obtain ⟨n1, hn1⟩ : ∃ n : Nat, l.length = n := ⟨_, rfl⟩
  obtain ⟨q, hq⟩ : ∃ q : Nat, s / 32 = q := ⟨_, rfl⟩
  obtain ⟨r, hr⟩ : ∃ r : Nat, s % 32 = r := ⟨_, rfl⟩
  have hr32 : r < 32 := by omega
  have hq9 : q ≤ 1000000000 := by omega
  have hqi : Int.tdiv (s : Int) 32 = (q : Int) := by rw [Int.tdiv_eq_ediv_of_nonneg (by omega)]; omega
  have hri : Int.tmod (s : Int) 32 = (r : Int) := by rw [Int.tmod_eq_emod_of_nonneg (by omega)]; omega
  have hpow : 4294967296 ^ q * 2 ^ r = 2 ^ s := by rw [pow32, ← Nat.pow_add]; congr 1; omega
  have HP := Lib.hid hpow
  have hs0 : ¬ ((s : Int) < 0) := by omega
  rw [hn1]
  have HN1 := Lib.hid hn1
  have hn9 : n1 ≤ 1000000000 := by omega
  have hmk := fun w => make_nat q (by omega) w
  have HZ : Hid (Row 39 1 q (u32s (List.replicate q 0)) q (u32s (List.replicate q 0))) := Lib.hid ⟨Nat.le_refl _, by show q ≤ 9223372036854775807; omega, by rw [u32s_len, List.length_replicate, Nat.mul_one], by rw [Nat.mul_one, List.take_of_length_le (by rw [u32s_len, List.length_replicate]; exact Nat.le_refl _)], by rw [u32s_len, List.length_replicate, Nat.mul_one]⟩
  obtain ⟨i0, hi, hzz0, hzz1, hzz2⟩ := info_parts infoU32
  have hc0 : Hid ((0 : Nat) < 2 ^ r) := Lib.hid (Nat.two_pow_pos r)
  clear hn1 hq hr hpow hl
  generalize (s : Int) = si at *
  go_enter Tryd.func96, Tryd.ntmps96
  go_wp2_with (with_reducible refine G.any_mark _ ?_; (try generalize Array.size (World.heap (G.w _)) = bk); (try dsimp only [List.set_cons_zero, List.set_cons_succ]); (try clear g); intro g)
  obtain ⟨zb, rfl⟩ : ∃ zb : Nat, zb = bk := ⟨_, rfl⟩
  have hzb : w.heap.size ≤ zb := g.fresh (List.mem_cons_self ..)
  go_loopg [7, 8, 9] n1 (fun gk s7 s8 s9 wr => ∃ (k c : Nat) (pre : List Nat) (b cap : Nat) (cs : List Value), k + gk = n1 ∧ s8 = .int .u64 (c : Int) ∧ s9 = .int .i64 (k : Int) ∧ c < 4294967296 ∧ Hid (c < 2 ^ r ∧ pre.length = k ∧ Ok pre ∧ val pre + 4294967296 ^ k * c = val (l.take k) * 2 ^ r) ∧ s7 = .slice (some ⟨b, 0, none⟩) (q + k) cap ∧ Row 39 1 (q + k) (u32s (List.replicate q 0 ++ pre)) cap cs ∧ w.heap.size ≤ b ∧ ∃ g : G w [] [(b, 39, cs)] [heapOf w], wr = g.w)
  case atStart => exact ⟨0, 0, [], zb, q, _, by omega, rfl, rfl, by omega, ⟨hc0.out, rfl, Ok.nil, by simp [val]⟩, rfl, by rw [List.append_nil]; exact HZ.out, hzb, g, rfl⟩
  case round =>
    clear g hmk HZ hzb
    obtain ⟨k, c, pre, b', cap, cs, hkg, rfl, rfl, hc9, HI, rfl, hrow, hb, g, rfl⟩ := hrel
    have hr0 : ¬ ((r : Int) < 0) := by omega
    have hr1 : (0 : Int) ≤ (r : Int) := by omega
    by_cases hk : k < n1
    · obtain ⟨b, o, rfl, hcell⟩ := lim_cells h.lim (by rw [HN1.out]; omega)
      have e0 := hcell k (by rw [HN1.out]; omega) _ _ _ _ g (by simp)
      clear hcell
      have hX := h.ok.getD k
      have hun := up_next (l := l) HI.out.2.1 hr32 HI.out.1 rfl hX HI.out.2.2.2
      have hdis : bits .or .u64 (c : Int) ((l.getD k 0 * 2 ^ r : Nat) : Int) = ((l.getD k 0 * 2 ^ r + c : Nat) : Int) := K3.or64_add _ _ r (by omega) HI.out.1 (by omega) (Nat.mul_mod_left _ _)
      have hlt2 : l.getD k 0 * 2 ^ r < 18446744073709551616 := by omega
      have hpo := HI.out.2.2.1
      have hpl := HI.out.2.1
      generalize l.getD k 0 = X at *
      have hsh : IntKind.u64.wrap ((X : Int) * 2 ^ r) = ((X * 2 ^ r : Nat) : Int) := by
        rw [show (X : Int) * 2 ^ r = ((X * 2 ^ r : Nat) : Int) by rw [Int.natCast_mul, Int.natCast_pow]; rfl, IntKind.wrap_u64]
        omega
      have hwX : IntKind.u64.wrap (X : Int) = (X : Int) := by rw [IntKind.wrap_u64]; omega
      generalize X * 2 ^ r = y at *
      obtain ⟨t, ht⟩ : ∃ t, y + c = t := ⟨_, rfl⟩
      rw [ht] at hun hdis
      obtain ⟨lo, hlo⟩ : ∃ lo, t % 4294967296 = lo := ⟨_, rfl⟩
      obtain ⟨hi', hhi⟩ : ∃ hi', t / 4294967296 = hi' := ⟨_, rfl⟩
      have ht9 := hun.2.1
      have f5 : IntKind.u32.wrap (t : Int) = (lo : Int) := by rw [IntKind.wrap_u32]; omega
      have f6 : (t : Int) / 4294967296 = (hi' : Int) := by omega
      have hlo9 : lo < 4294967296 := by omega
      have hhi9 : hi' < 4294967296 := by omega
      rw [hlo, hhi] at hun
      have HI2 : Hid (hi' < 2 ^ r ∧ (pre ++ [lo]).length = k + 1 ∧ Ok (pre ++ [lo]) ∧ val (pre ++ [lo]) + 4294967296 ^ (k + 1) * hi' = val (l.take (k + 1)) * 2 ^ r) := Lib.hid ⟨hun.1, by rw [List.length_append, hpl]; rfl, hpo.append (Ok.cons hlo9 Ok.nil), hun.2.2⟩
      have H1 : ∀ u ∈ [Value.int .u32 (lo : Int)], u.oneCell' = true := by intro u hu; rw [List.mem_singleton.1 hu]; rfl
      have H2 : q + k + 1 ≤ maxLen := by show q + k + 1 ≤ 9223372036854775807; omega
      have H3 : (q + k + 1) * 4 ≤ 140737488355328 := by omega
      have HAP : Hid (u32s (List.replicate q 0 ++ (pre ++ [lo])) = u32s (List.replicate q 0 ++ pre) ++ [.int .u32 (lo : Int)]) := Lib.hid (by rw [← List.append_assoc, u32s_append]; rfl)
      have hki : (k : Int) < (n1 : Int) := by omega
      have hgk : 0 < gk := by omega
      have hkg2 : k + 1 + (gk - 1) = n1 := by omega
      clear hun ht hlo hhi hlt2 hX HI hpl
      go_wp2_with (first | (with_reducible refine G.any_mark _ ?_; (try generalize Array.size (World.heap (G.w _)) = bk); (try dsimp only [List.set_cons_zero, List.set_cons_succ]); (try clear g); intro g) | (at_builtin; refine wpList_append_lit rfl _ _ 24 rfl 39 i0 _ 1 4 Tryd.underlying24 hi hzz0 hzz1 hzz2 rfl (by decide) g hrow hb rfl 1 rfl rfl H1 (by decide) H2 H3 ?_; clear hb hrow g e0; intro b' cap cs g hb hrow))
      go_roundg (gk - 1)
      case measure => omega
      case rel => exact ⟨k + 1, hi', pre ++ [lo], b', cap, cs, hkg2, rfl, by go_num, hhi9, HI2, rfl, by rw [HAP.out]; exact hrow, hb, g, rfl⟩
    · obtain rfl : k = n1 := by omega
      have hpl := HI.out.2.1
      have heq := HI.out.2.2.2
      rw [val_take_all (by rw [HN1.out]; exact Nat.le_refl _)] at heq
      have hL : (List.replicate q 0 ++ (pre ++ [c])).length = q + k + 1 := by rw [List.length_append, List.length_append, List.length_replicate, hpl]; rfl
      have hV : val (List.replicate q 0 ++ (pre ++ [c])) = val l * 2 ^ s := by
        rw [val_append, val_zeros, val_snoc, hpl, heq, List.length_replicate, Nat.zero_add, ← HP.out, Nat.mul_left_comm]
      have hO : Ok (List.replicate q 0 ++ (pre ++ [c])) := (Ok.zeros q).append (HI.out.2.2.1.append (Ok.cons hc9 Ok.nil))
      have HAP : Hid (u32s (List.replicate q 0 ++ (pre ++ [c])) = u32s (List.replicate q 0 ++ pre) ++ [.int .u32 (c : Int)]) := Lib.hid (by rw [← List.append_assoc, u32s_append]; rfl)
      generalize List.replicate q 0 ++ (pre ++ [c]) = L at *
      have CT1 := Lib.hid (fun A cap w h => rtrim_any A cap L w h)
      rw [hL] at CT1
      have HL := Lib.hid hL
      have HV := Lib.hid hV
      have H1 : ∀ u ∈ [Value.int .u32 (c : Int)], u.oneCell' = true := by intro u hu; rw [List.mem_singleton.1 hu]; rfl
      have H2 : q + k + 1 ≤ maxLen := by show q + k + 1 ≤ 9223372036854775807; omega
      have H3 : (q + k + 1) * 4 ≤ 140737488355328 := by omega
      have f5 : IntKind.u32.wrap (c : Int) = (c : Int) := by rw [IntKind.wrap_u32]; omega
      have hki : ¬ ((k : Int) < (k : Int)) := by omega
      clear hL hV heq hpl HI
      go_wp2_with (first | (with_reducible refine G.any_mark _ ?_; (try generalize Array.size (World.heap (G.w _)) = bk); (try dsimp only [List.set_cons_zero, List.set_cons_succ]); (try clear g); intro g) | (at_builtin; refine wpList_append_lit rfl _ _ 24 rfl 39 i0 _ 1 4 Tryd.underlying24 hi hzz0 hzz1 hzz2 rfl (by decide) g hrow hb rfl 1 rfl rfl H1 (by decide) H2 H3 ?_; clear hb hrow g; intro b' cap cs g hb hrow))
      rw [← HAP.out] at hrow
      have hsl : SlW g.w (some ⟨b', 0, none⟩) cap L := (sl_row hrow HL.out (by omega) hO).at (blkF_sub g.blk0)
      have hsr := Lib.hid (sl_trim (sl_row (b := b') hrow HL.out (by omega) hO))
      refine (CT1.out _ _ _ hsl).mono ?_
      rintro e w1 ⟨rfl, hb⟩
      obtain ⟨g1, rfl⟩ := G.call_ex _ hb
      clear hb
      (try clear g)
      revert g1
      intro g
      clear hsl
      go_wp2_with (with_reducible refine G.any_mark _ ?_; (try generalize Array.size (World.heap (G.w _)) = bk); (try dsimp only [List.set_cons_zero, List.set_cons_succ]); (try clear g); intro g)
      go_ret
      have hlim : (limbs (val L)).length ≤ q + k + 1 := by rw [← HL.out]; exact limbs_len_le_of_ok hO
      have hpre := Row.pre hrow hlim
      rw [limbs_prefix hO] at hpre
      rw [← HV.out]
      exact ⟨b', cap, cs, rfl, hpre, g.below, hb, g.blk0⟩
end Go.Proofs.YtjdnpkicdmapnaaDoor
