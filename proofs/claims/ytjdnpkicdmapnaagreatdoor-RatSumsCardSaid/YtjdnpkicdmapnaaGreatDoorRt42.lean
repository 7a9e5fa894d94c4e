/- Plain facts and contracts of functions of the program, out of walks. Their conditions stand ahead of each. -/
import Derived.Test.YtjdnpkicdmapnaaGreatDoorRt3
import Derived.Test.YtjdnpkicdmapnaaGreatDoorRt12
import Derived.Test.YtjdnpkicdmapnaaGreatDoorRt28
import Derived.Test.YtjdnpkicdmapnaaGreatDoorRt35
import Derived.Test.YtjdnpkicdmapnaaGreatDoorRt36
import Derived.Test.YtjdnpkicdmapnaaGreatDoorRt41
import Derived.Below
import Derived.BigQuiet
import Derived.Deep.Draws
import Derived.Deep.LoopGhost
import Derived.Deep.QuietTactic
import Derived.Deep.RegionHeld3
import Derived.Deep.RegionLaw
import Derived.Defers
import Derived.Laws.BytesString
import Derived.Laws.Cells
import Derived.Laws.CopyOwn
import Derived.Laws.CopyRow
import Derived.Laws.NewBlocks
import Derived.Laws.OwnMore
import Derived.Laws.Pointers
import Derived.Laws.Rows
import Derived.Lib.BitFns
import Derived.Lib.Hide
import Derived.Lib.ItoaNum
import Derived.Lib.TrailingZeros
import Derived.LoopIn
import Derived.LoopNIn
import Derived.Maps.AppendAt
import Derived.OrdersIn
import Derived.OwnWalk
import Derived.OwnWalkIn
import Derived.RangeFuncBound
import Derived.RangeFuncBox
import Derived.RangeFuncCalls
import Derived.RangeFuncLeaves
import Derived.RangeFuncNested
import Derived.RowKit3
import Derived.Shelf.Abstract
import Derived.Shelf.RegionOpen
import Derived.Shelf.Spec.TrailingZeros
import Derived.StillTactics
import Derived.StillTailTactics
import Derived.TacticsInMore
import Derived.Test.YtjdnpkicdmapnaaGreatDoorProg
import Derived.WalkKit
import Derived.WalkLawsBesides
import Derived.WalkMore
import Derived.WalkSpells
set_option linter.unusedVariables false
set_option linter.unusedSimpArgs false
set_option exponentiation.threshold 10000
namespace Go.Proofs.YtjdnpkicdmapnaaGreatDoor
open Go.RowKit GW NL
theorem and1_u32 (x : Nat) (hx : x < 4294967296) : bits .and .u32 (x : Int) 1 = ((x % 2 : Nat) : Int) := by
  rw [K3.and32, BitVec.toNat_and, BitVec.ofInt_natCast, BitVec.toNat_ofNat, Nat.mod_eq_of_lt (by omega), show (BitVec.ofInt 32 1).toNat = 1 from rfl, Nat.and_one_is_mod]
/-- a bit of a number in its limbs -/
theorem bit_limb {l : List Nat} (ho : Ok l) (k : Nat) : l.getD (k / 32) 0 / 2 ^ (k % 32) % 2 = val l / 2 ^ k % 2 := by
  rw [getD_val l ho, pow32]
  have hk : k = 32 * (k / 32) + k % 32 := by omega
  have hr : k % 32 < 32 := Nat.mod_lt _ (by decide)
  obtain ⟨q, hq⟩ : ∃ q, k / 32 = q := ⟨_, rfl⟩
  obtain ⟨r, hr'⟩ : ∃ r, k % 32 = r := ⟨_, rfl⟩
  rw [hq, hr'] at hk ⊢
  rw [hr'] at hr
  subst hk
  rw [Nat.pow_add, ← Nat.div_div_eq_div_mul]
  generalize val l / 2 ^ (32 * q) = y
  have e : 4294967296 = 2 ^ r * 2 ^ (32 - r) := by rw [← Nat.pow_add, show r + (32 - r) = 32 by omega]
  rw [e, Nat.mod_mul_right_div_self, Nat.mod_mod_of_dvd]
  exact ⟨2 ^ (32 - r - 1), by rw [← Nat.pow_succ', show (32 - r - 1).succ = 32 - r by omega]⟩
theorem tz_bit_lt {v k : Nat} (h : v ≠ 0) (hk : k < tz v) : v / 2 ^ k % 2 = 0 := by
  obtain ⟨e, _⟩ := od_spec v h
  have : v / 2 ^ k = 2 * (2 ^ (tz v - k - 1) * od v) := by
    conv => lhs; rw [e]
    rw [show 2 ^ tz v = 2 ^ k * (2 * 2 ^ (tz v - k - 1)) by rw [← Nat.pow_succ', ← Nat.pow_add]; congr 1; omega]
    rw [Nat.mul_assoc, Nat.mul_div_cancel_left _ (Nat.two_pow_pos k), Nat.mul_assoc]
  omega
theorem tz_bit_eq {v : Nat} (h : v ≠ 0) : v / 2 ^ tz v % 2 = 1 := (od_spec v h).2
theorem tz_bits_len {l : List Nat} (ho : Ok l) (h : val l ≠ 0) : tz (val l) < 32 * l.length := by
  obtain ⟨e, _⟩ := od_spec _ h
  have h1 : 2 ^ tz (val l) ≤ val l := by
    have := Nat.mul_le_mul_left (2 ^ tz (val l)) (Nat.one_le_iff_ne_zero.2 (od_pos h))
    omega
  have h2 := val_lt ho
  rw [pow32] at h2
  exact (Nat.pow_lt_pow_iff_right (by decide : 1 < 2)).1 (Nat.lt_of_le_of_lt h1 h2)
set_option maxRecDepth 20000 in
theorem rtwos_any (A : Option Addr) (c : Nat) (l : List Nat) (w : World) (h : SlW w A c l) (h0 : val l ≠ 0) :
    Calls Tryz.prog 97 #[.slice A l.length c] w fun e w' => e = .returned (.int .i64 (tz (val l) : Nat)) ∧ w = w' := by
  have hm := h.len
  have hmm := h.max
  have hc := h.cap
  have ho := h.ok
  have ht := tz_bits_len ho h0
  obtain ⟨n, hn⟩ : ∃ n, l.length = n := ⟨_, rfl⟩
  obtain ⟨t, htt⟩ : ∃ t, tz (val l) = t := ⟨_, rfl⟩
  rw [hn] at hm hc ht ⊢
  rw [htt] at ht ⊢
  have HN := Lib.hid hn
  have H0 := Lib.hid h0
  have HT := Lib.hid htt
  clear hn h0 htt
  go_enter Tryz.func97, Tryz.ntmps97
  go_wp2_with fail
  go_loopg [3] t (fun gk i wr => ∃ k : Nat, k + gk = t ∧ i = .int .i64 k ∧ wr = w)
  case atStart => exact ⟨0, by omega, rfl, rfl⟩
  case round =>
    obtain ⟨k, hkg, rfl, rfl⟩ := hrel
    obtain ⟨b, o, rfl, hcell⟩ := limW_cell h.lim (by rw [HN.out]; omega)
    have e1 := hcell (k / 32) (by rw [HN.out]; omega)
    clear hcell
    have hbit := bit_limb ho k
    have hxl := ho.getD (k / 32)
    have hq : ((k : Int).tdiv 32) = ((k / 32 : Nat) : Int) := by rw [Int.tdiv_eq_ediv_of_nonneg (by omega)]; omega
    have hr : ((k : Int).tmod 32) = ((k % 32 : Nat) : Int) := by rw [Int.tmod_eq_emod_of_nonneg (by omega)]; omega
    have hqn : ((k / 32 : Nat) : Int) < (n : Int) := by omega
    have hr32 : k % 32 < 32 := by omega
    have hb : bits .and .u32 (((l.getD (k / 32) 0 / 2 ^ (k % 32) : Nat)) : Int) 1 = ((val l / 2 ^ k % 2 : Nat) : Int) := by
      rw [and1_u32 _ (Nat.lt_of_le_of_lt (Nat.div_le_self _ _) hxl), hbit]
    clear hbit
    generalize l.getD (k / 32) 0 = x at *
    generalize hkq : k / 32 = q at *
    generalize hkr : k % 32 = r at *
    rw [show (((x / 2 ^ r : Nat)) : Int) = (x : Int) / 2 ^ r by rw [Int.natCast_ediv, Int.natCast_pow]; rfl] at hb
    by_cases hk : gk = 0
    · subst hk
      have hkt : k = t := by omega
      have HKT := Lib.hid hkt
      rw [show val l / 2 ^ k % 2 = 1 by rw [hkt, ← HT.out]; exact tz_bit_eq H0.out] at hb
      have hbz : (bits .and .u32 ((x : Int) / 2 ^ r) 1 == 0) = false := by rw [hb]; rfl
      clear hkt hb
      go_wp2_with fail
      go_ret
      exact ⟨ret_int (by rw [HKT.out]), rfl⟩
    · have HKT := Lib.hid (show k < t by omega)
      rw [show val l / 2 ^ k % 2 = 0 from tz_bit_lt H0.out (by rw [HT.out]; exact HKT.out)] at hb
      have hbz : (bits .and .u32 ((x : Int) / 2 ^ r) 1 == 0) = true := by rw [hb]; rfl
      clear hb
      go_wp2_with fail
      go_roundg (gk - 1)
      case measure => omega
      case rel => exact ⟨k + 1, by omega, by go_num, rfl⟩
end Go.Proofs.YtjdnpkicdmapnaaGreatDoor
namespace Go.Proofs.YtjdnpkicdmapnaaGreatDoor
open Go.RowKit GW NL
set_option maxRecDepth 20000 in
set_option maxHeartbeats 2000000 in
theorem rodd_any (b o n cap : Nat) (cs : List Value) (l : List Nat) (w : World) (hb : w.heap[b]? = some (.cells cs.toArray 29 (0, 0))) (hs : Seg cs o l) (hn : l.length = n) (hcap : n ≤ cap) (hcap2 : cap ≤ 9223372036854775807) (hn9 : n ≤ 1000000000) (hk : Ok l) (h0 : val l ≠ 0) :
    Calls Tryz.prog 98 #[.slice (some ⟨b, o, none⟩) n cap] w (ROdd b o cap n (val l) cs.length w) := by
  refine calls_m hb fun g => ?_
  have hsl : SlW g.w (some ⟨b, o, none⟩) cap l := (hs.sl (by omega) hcap2 (by omega) hk).at (blkF_sub g.blk0)
  have C2 := Lib.hid (fun w h => rtwos_any (some ⟨b, o, none⟩) cap l w h h0)
  rw [hn] at C2
  have hq := tz_len hk h0
  have hod := od_split hk
  obtain ⟨t, ht⟩ : ∃ t, tz (val l) = t := ⟨_, rfl⟩
  rw [ht] at C2 hq hod
  obtain ⟨q, hqe⟩ : ∃ q, t / 32 = q := ⟨_, rfl⟩
  obtain ⟨r, hre⟩ : ∃ r, t % 32 = r := ⟨_, rfl⟩
  rw [hqe] at hq hod
  rw [hre] at hod
  have hr32 : r < 32 := by omega
  have hqi : Int.tdiv (t : Int) 32 = (q : Int) := by rw [Int.tdiv_eq_ediv_of_nonneg (by omega)]; omega
  have hri : Int.tmod (t : Int) 32 = (r : Int) := by rw [Int.tmod_eq_emod_of_nonneg (by omega)]; omega
  have hqi2 : (t : Int) / 32 = (q : Int) := by omega
  have hri2 : (t : Int) % 32 = (r : Int) := by omega
  have ht9 : t ≤ 32000000000 := by omega
  obtain ⟨n', hn'⟩ : ∃ n', n - q = n' := ⟨_, rfl⟩
  obtain ⟨o', ho'⟩ : ∃ o', o + q = o' := ⟨_, rfl⟩
  obtain ⟨c', hc'⟩ : ∃ c', cap - q = c' := ⟨_, rfl⟩
  have hsd := hs.drop q (by omega)
  have hok' := hk.drop q
  obtain ⟨l', hl'⟩ : ∃ l', l.drop q = l' := ⟨_, rfl⟩
  have hll : l'.length = n' := by rw [← hl', List.length_drop]; omega
  rw [hl'] at hsd hok' hod
  rw [ho'] at hsd
  have HQ := Lib.hid (show q < n by omega)
  have HO := Lib.hid ho'
  have HC := Lib.hid hc'
  have HLL := Lib.hid hll
  have HOD := Lib.hid hod
  have HSD := Lib.hid hsd
  have hqn : q < n := by omega
  have hqn2 : (q : Int) ≤ (n : Int) := by omega
  have hqc : q < cap := by omega
  have hn'9 : n' ≤ 1000000000 := by omega
  have hc'9 : n' ≤ c' := by omega
  have hc'8 : c' ≤ 9223372036854775807 := by omega
  have hr0 : ¬ ((r : Int) < 0) := by omega
  have hr1 : (0 : Int) ≤ (r : Int) := by omega
  clear hl' hll hod hsd hs hq hn hqe hre ht
  go_enter Tryz.func98, Tryz.ntmps98
  go_wp2_with (with_reducible refine G.any_mark _ ?_; (try generalize Array.size (World.heap (G.w _)) = bk); (try dsimp only [List.set_cons_zero, List.set_cons_succ]); (try clear g); intro g)
  refine (C2.out _ hsl).mono ?_
  rintro e w1 ⟨rfl, rfl⟩
  go_wp2_with (with_reducible refine G.any_mark _ ?_; (try generalize Array.size (World.heap (G.w _)) = bk); (try dsimp only [List.set_cons_zero, List.set_cons_succ]); (try clear g); intro g)
  go_loopg [4] n' (fun gk i wr => ∃ (k : Nat) (pre : List Nat) (cs' : List Value), k + gk = n' ∧ i = .int .i64 k ∧ pre.length = k ∧ Ok pre ∧ Hid (val pre = val l' / 2 ^ r % 4294967296 ^ k) ∧ Hid (Seg cs' o' (pre ++ l'.drop k)) ∧ cs'.length = cs.length ∧ ∃ g : G w [b] [(b, 29, cs')] [heapBut w b], wr = g.w)
  case atStart => exact ⟨0, [], cs, by omega, rfl, rfl, Ok.nil, Lib.hid (by simp [val, Nat.mod_one]), Lib.hid (by rw [List.drop_zero, List.nil_append]; exact HSD.out), rfl, g, rfl⟩
  case round =>
    clear g hsl
    obtain ⟨k, pre, cs', hkg, rfl, hp, hpo, HV, HS, hcl, g, rfl⟩ := hrel
    have HP := Lib.hid hp
    have HCL := Lib.hid hcl
    clear hp hcl
    have hLl : (pre ++ l'.drop k).length = n' := by rw [List.length_append, List.length_drop, HP.out, HLL.out]; omega
    have hLo : Ok (pre ++ l'.drop k) := hpo.append (hok'.drop k)
    have HSLg : Hid (∀ g : G w [b] [(b, 29, cs')] [heapBut w b], SlW g.w (some ⟨b, o', none⟩) c' (pre ++ l'.drop k)) := Lib.hid (fun g => (HS.out.sl (by omega) hc'8 (by omega) hLo).at (blkF_sub g.blk0))
    have HLn := Lib.hid hLl
    by_cases hk2 : k < n'
    · have e1 := HS.out.get k (by omega)
      rw [pre_get HP.out (Nat.le_refl _)] at e1
      have hx := hok'.getD k
      have hy := hok'.getD (k + 1)
      have dl := down_limb hok' k r hr32
      have st := Lib.hid (low_step HP.out HV.out dl)
      have e2 : k + 1 < n' → cs'[o' + (k + 1)]? = some (.int .u32 ((l'.getD (k + 1) 0 : Nat) : Int)) := fun h => by
        have := HS.out.get (k + 1) (by omega)
        rwa [pre_get HP.out (by omega)] at this
      have e3 : ¬ k + 1 < n' → l'.getD (k + 1) 0 = 0 := fun h => by
        rw [List.getD_eq_getElem?_getD, List.getElem?_eq_none (by rw [HLL.out]; omega)]; rfl
      have HS2 : ∀ z, Hid (Seg (cs'.set (o' + k) (.int .u32 ((z : Nat) : Int))) o' ((pre ++ [z]) ++ l'.drop (k + 1))) := fun z => Lib.hid (by
        rw [← pre_set HP.out (by rw [HLL.out]; exact hk2)]
        exact HS.out.set (by rw [HLn.out]; exact hk2) z)
      have hr : (l'.getD k 0 + 4294967296 * l'.getD (k + 1) 0) / 2 ^ r % 4294967296 < 4294967296 := Nat.mod_lt _ (by decide)
      clear dl hLl
      generalize l'.getD k 0 = x at *
      generalize l'.getD (k + 1) 0 = y at *
      have ht : x + 4294967296 * y < 18446744073709551616 := by omega
      have hor : bits .or .u64 (x : Int) ((y : Int) * 4294967296) = ((x + 4294967296 * y : Nat) : Int) := by
        rw [show (y : Int) * 4294967296 = ((y * 4294967296 : Nat) : Int) by omega, K3.or64_add _ _ 32 (by omega) (by omega) (by omega) (by omega)]
        omega
      have hw1 : IntKind.u64.wrap (x : Int) = (x : Int) := by rw [IntKind.wrap_u64]; omega
      have hw2 : IntKind.u64.wrap (y : Int) = (y : Int) := by rw [IntKind.wrap_u64]; omega
      have hw3 : IntKind.u64.wrap ((y : Int) * 4294967296) = (y : Int) * 4294967296 := by rw [IntKind.wrap_u64]; omega
      obtain ⟨tt, htt⟩ : ∃ t, x + 4294967296 * y = t := ⟨_, rfl⟩
      rw [htt] at hor ht st hr
      obtain ⟨z, hz⟩ : ∃ z, tt / 2 ^ r % 4294967296 = z := ⟨_, rfl⟩
      rw [hz] at st hr
      have he1 : (tt : Int) / 2 ^ r % 4294967296 = (z : Int) := by
        rw [← hz, show (tt : Int) / 2 ^ r = ((tt / 2 ^ r : Nat) : Int) by rw [Int.natCast_ediv, Int.natCast_pow]; rfl]
        omega
      have he2 : IntKind.u32.wrap ((tt : Int) / 2 ^ r) = (z : Int) := by rw [IntKind.wrap_u32]; exact he1
      have HS3 := HS2 z
      have hcl2 : Hid ((cs'.set (o' + k) (.int .u32 ((z : Nat) : Int))).length = cs.length) := Lib.hid (by rw [List.length_set]; exact HCL.out)
      clear hz ht HS2
      have hi2 : (k : Int) < (n' : Int) := by omega
      have hi3 : IntKind.i64.wrap ((k : Int) + 1) = (k : Int) + 1 := by rw [IntKind.wrap_i64]; omega
      generalize pre ++ l'.drop k = L at *
      by_cases hk3 : k + 1 < n'
      · have e4 := e2 hk3
        have hi4 : (k : Int) + 1 < (n' : Int) := by omega
        have hr9 := Lib.hid hr
        have HTT := Lib.hid htt
        clear e2 e3 hr htt
        go_wp2_with (with_reducible refine G.any_mark _ ?_; (try generalize Array.size (World.heap (G.w _)) = bk); (try dsimp only [List.set_cons_zero, List.set_cons_succ]); (try clear g); intro g)
        go_roundg (gk - 1)
        case measure => omega
        case rel => exact ⟨k + 1, pre ++ [z], _, by omega, by go_num, by rw [List.length_append, HP.out]; rfl, hpo.append (Ok.cons hr9.out Ok.nil), st, HS3, hcl2.out, g, rfl⟩
      · have hy0 := e3 hk3
        have hi4 : ¬ ((k : Int) + 1 < (n' : Int)) := by omega
        have hxt : x = tt := by omega
        have hr9 := Lib.hid hr
        clear e2 e3 hr htt hw2 hw3 hor hy0
        subst hxt
        go_wp2_with (with_reducible refine G.any_mark _ ?_; (try generalize Array.size (World.heap (G.w _)) = bk); (try dsimp only [List.set_cons_zero, List.set_cons_succ]); (try clear g); intro g)
        go_roundg (gk - 1)
        case measure => omega
        case rel => exact ⟨k + 1, pre ++ [z], _, by omega, by go_num, by rw [List.length_append, HP.out]; rfl, hpo.append (Ok.cons hr9.out Ok.nil), st, HS3, hcl2.out, g, rfl⟩
    · obtain rfl : k = n' := by omega
      have hv : val (pre ++ l'.drop k) = od (val l) := by
        rw [HOD.out, List.drop_of_length_le (by rw [HLL.out]; exact Nat.le_refl _), List.append_nil]
        exact down_end hok' (n := k) (by rw [HLL.out]; exact Nat.le_refl _) HV.out
      have hst := HS.out.trim hLo
      rw [hv] at hst
      have hst := HS.out.trim hLo
      rw [hv] at hst
      have hlo9 : Hid (q + (limbs (od (val l))).length ≤ n) := Lib.hid (by have := limbs_len_le_of_ok hLo; rw [hv, HLn.out] at this; omega)
      have HST := Lib.hid hst
      have hV0 := od_pos h0
      generalize pre ++ l'.drop k = L at *
      obtain ⟨V, hVe⟩ : ∃ V, od (val l) = V := ⟨_, rfl⟩
      rw [hVe] at hv hst hlo9 HST hV0
      have HVE := Lib.hid hVe
      have HV0 := Lib.hid hV0
      have HVL := Lib.hid hv
      clear hst hv hLl hV0 HSLg hVe
      go_wp2_with (with_reducible refine G.any_mark _ ?_; (try generalize Array.size (World.heap (G.w _)) = bk); (try dsimp only [List.set_cons_zero, List.set_cons_succ]); (try clear g); intro g)
      go_loopg [0] k (fun gk s0 wr => gk ≤ k ∧ s0 = .slice (some ⟨b, o', none⟩) gk c' ∧ Hid (val (L.take gk) = V) ∧ ∃ g : G w [b] [(b, 29, cs')] [heapBut w b], wr = g.w)
      case atStart => exact ⟨Nat.le_refl _, rfl, Lib.hid (by rw [List.take_of_length_le (by rw [HLn.out]; exact Nat.le_refl _)]; exact HVL.out), g, rfl⟩
      case round =>
        clear g
        obtain ⟨hj, rfl, HVJ, g, rfl⟩ := hrel
        have hj0 : 0 < gk := by
          rcases Nat.eq_zero_or_pos gk with h | h
          · exfalso; apply HV0.out; rw [← HVJ.out, h, List.take_zero]; rfl
          · exact h
        have e1 := HS.out.get (gk - 1) (by rw [HLn.out]; omega)
        have hji : ((gk - 1 : Nat) : Int) = (gk : Int) - 1 := by omega
        have hj1 : (0 : Int) ≤ (gk : Int) - 1 := by omega
        have hj2 : (gk : Int) - 1 < (gk : Int) := by omega
        by_cases hx : L.getD (gk - 1) 0 = 0
        · have hv' : val (L.take (gk - 1)) = V := by
            rw [← HVJ.out]
            have := val_take_getD L (gk - 1)
            rw [show gk - 1 + 1 = gk by omega, hx] at this
            omega
          have HV' := Lib.hid hv'
          have hx1 : (((L.getD (gk - 1) 0 : Nat) : Int) == 0) = true := by simp only [hx]; rfl
          clear hv' hx
          generalize ((L.getD (gk - 1) 0 : Nat) : Int) = v at *
          go_wp2_with (with_reducible refine G.any_mark _ ?_; (try generalize Array.size (World.heap (G.w _)) = bk); (try dsimp only [List.set_cons_zero, List.set_cons_succ]); (try clear g); intro g)
          go_roundg (gk - 1)
          case measure => omega
          case rel => exact ⟨by omega, rfl, HV', g, rfl⟩
        · have hlen : (limbs V).length = gk := by
            have hl : (L.take gk).length = gk := by rw [List.length_take, HLn.out]; omega
            have t : Trim (L.take gk) := by
              intro j hj
              rw [hl] at hj
              rw [getD_take (by omega), show j = gk - 1 by omega]
              exact hx
            rw [← HVJ.out, limbs_val (hLo.take gk) t, hl]
          have HLE := Lib.hid hlen
          have hx1 : (((L.getD (gk - 1) 0 : Nat) : Int) == 0) = false := by simp only [beq_eq_false_iff_ne, ne_eq]; omega
          clear hlen hx
          generalize ((L.getD (gk - 1) 0 : Nat) : Int) = v at *
          go_wp2_with (with_reducible refine G.any_mark _ ?_; (try generalize Array.size (World.heap (G.w _)) = bk); (try dsimp only [List.set_cons_zero, List.set_cons_succ]); (try clear g); intro g)
          go_ret
          exact ⟨q, cs', by rw [HVE.out, HO.out, HC.out, HLE.out]; rfl, HQ.out, by rw [HVE.out]; exact hlo9.out, g.chg, g.blk0, by rw [HVE.out, HO.out]; exact HST.out, HCL.out⟩
end Go.Proofs.YtjdnpkicdmapnaaGreatDoor
namespace Go.Proofs.YtjdnpkicdmapnaaGreatDoor
open Go.RowKit GW NL
theorem own_seg (A : Option Addr) (c : Nat) (l : List Nat) (w : World) (h : SlW w A c l) (hl9 : l.length ≤ 35184372088832) (hl : 0 < l.length) :
    Calls Tryz.prog 9 #[.slice A l.length c] w (fun e w' => ∃ b cap cs, e = .returned (.slice (some ⟨b, 0, none⟩) l.length cap) ∧ l.length ≤ cap ∧ cap ≤ 9223372036854775807 ∧ Seg cs 0 l ∧ Below w.heap.size w w' ∧ w.heap.size ≤ b ∧ w'.heap[b]? = some (.cells cs.toArray 29 (0, 0))) := by
  refine (own_own A c l w h hl9 hl).mono ?_
  rintro e w' ⟨b, cap, cs, rfl, hr, hb, hb2, hh⟩
  exact ⟨b, cap, cs, rfl, hr.le, hr.max, Row.seg hr rfl, hb, hb2, hh⟩
theorem ord_eq {a b : Nat} (h : ord a b = 0) : a = b := by
  unfold ord at h; split at h
  · cases h
  · split at h
    · cases h
    · omega
theorem ord_neg {a b : Nat} (h : a < b) : ord a b < 0 := by unfold ord; rw [if_pos h]; decide
theorem ord_pos {a b : Nat} (h : b < a) : ord a b = 1 := by unfold ord; rw [if_neg (by omega), if_pos h]
/-- a limb's difference in 64 bits -/
theorem sub64 {x y c : Nat} (hx : x < 4294967296) (hy : y < 4294967296) (hc : c ≤ 1) :
    (IntKind.u64.wrap (IntKind.u64.wrap ((x : Int) - (c : Int)) - (y : Int)) % 4294967296 = (((x + 4294967296 - y - c) % 4294967296 : Nat) : Int) ∧ IntKind.u32.wrap (IntKind.u64.wrap (IntKind.u64.wrap ((x : Int) - (c : Int)) - (y : Int))) = (((x + 4294967296 - y - c) % 4294967296 : Nat) : Int) ∧ IntKind.u64.wrap (IntKind.u64.wrap ((x : Int) - (c : Int)) - (y : Int)) / 9223372036854775808 = ((brw x y c : Nat) : Int)) ∧
    (y = 0 → IntKind.u64.wrap ((x : Int) - (c : Int)) % 4294967296 = (((x + 4294967296 - y - c) % 4294967296 : Nat) : Int) ∧ IntKind.u32.wrap (IntKind.u64.wrap ((x : Int) - (c : Int))) = (((x + 4294967296 - y - c) % 4294967296 : Nat) : Int) ∧ IntKind.u64.wrap ((x : Int) - (c : Int)) / 9223372036854775808 = ((brw x y c : Nat) : Int)) := by
  simp only [IntKind.wrap_u64, IntKind.wrap_u32]
  unfold brw
  refine ⟨⟨by omega, by omega, by split <;> omega⟩, fun h => ⟨by omega, by omega, by split <;> omega⟩⟩
set_option maxRecDepth 20000 in
set_option maxHeartbeats 4000000 in
theorem rgcd_main (F0 : Frag) (A1 A2 : Option Addr) (c1 c2 a b : Nat) (w : World) (hF : F0.sub w) (h1 : F0.Sl A1 c1 (limbs a)) (h2 : F0.Sl A2 c2 (limbs b)) (ha : a ≠ 0) (hb : b ≠ 0) (hl1 : (limbs a).length ≤ 100000000) (hl2 : (limbs b).length ≤ 100000000) :
    Calls Tryz.prog 64 #[.slice A1 (limbs a).length c1, .slice A2 (limbs b).length c2] w (RAli F0 (Nat.gcd a b) w) := by
  refine calls_f hF fun g => ?_
  obtain ⟨la1, la2⟩ := limbs_ne ha
  obtain ⟨lb1, lb2⟩ := limbs_ne hb
  have CC1 := Lib.hid (fun w h => own_seg A1 c1 (limbs a) w h (by omega) la2)
  have CC2 := Lib.hid (fun w h => own_seg A2 c2 (limbs b) w h (by omega) lb2)
  have HA := Lib.hid ha
  have HB := Lib.hid hb
  have oda := od_spec a ha
  have odb := od_spec b hb
  have HOA := Lib.hid oda.2
  have HOB := Lib.hid odb.2
  clear ha hb oda odb
  generalize hla : (limbs a).length = la at *
  generalize hlb : (limbs b).length = lb at *
  have HLA := Lib.hid hla
  have HLB := Lib.hid hlb
  clear hla hlb
  go_enter Tryz.func64, Tryz.ntmps64
  go_wp2_with (with_reducible refine G.any_mark _ ?_; (try generalize Array.size (World.heap (G.w _)) = bk); (try dsimp only [List.set_cons_zero, List.set_cons_succ]); (try clear g); intro g)
  refine (CC1.out _ (G.sl g (by simp) h1)).mono ?_
  rintro e w1 ⟨bx, capx, csx, rfl, hcx, hcx9, hsx, hbe, hfr, hbl⟩
  obtain ⟨g1, rfl⟩ := G.own_ex g hbe hfr hbl
  clear hbe hfr hbl
  (try clear g)
  revert g1
  intro g
  go_wp2_with (with_reducible refine G.any_mark _ ?_; (try generalize Array.size (World.heap (G.w _)) = bk); (try dsimp only [List.set_cons_zero, List.set_cons_succ]); (try clear g); intro g)
  refine (CC2.out _ (G.sl g (by simp) h2)).mono ?_
  rintro e w1 ⟨bY, capy, csy, rfl, hcy, hcy9, hsy, hbe, hfr, hbl⟩
  obtain ⟨g1, rfl⟩ := G.own_ex g hbe hfr hbl
  clear hbe hfr hbl
  (try clear g)
  revert g1
  intro g
  have hbx : w.heap.size ≤ bx := g.fresh (m := (bx, 29, csx)) (by simp)
  have hbY : w.heap.size ≤ bY := g.fresh (m := (bY, 29, csy)) (by simp)
  have CT1 := Lib.hid (fun w h => (by
    have := rtwos_any (some ⟨bx, 0, none⟩) capx (limbs a) w h (by rw [val_limbs]; exact HA.out)
    rw [val_limbs, HLA.out] at this
    exact this : Calls Tryz.prog 97 #[.slice (some ⟨bx, 0, none⟩) la capx] w fun e w' => e = .returned (.int .i64 (tz a : Nat)) ∧ w = w'))
  have CT2 := Lib.hid (fun w h => (by
    have := rtwos_any (some ⟨bY, 0, none⟩) capy (limbs b) w h (by rw [val_limbs]; exact HB.out)
    rw [val_limbs, HLB.out] at this
    exact this : Calls Tryz.prog 97 #[.slice (some ⟨bY, 0, none⟩) lb capy] w fun e w' => e = .returned (.int .i64 (tz b : Nat)) ∧ w = w'))
  have hka := HA.out
  have hsl1 : SlW g.w (some ⟨bx, 0, none⟩) capx (limbs a) := (hsx.sl (by rw [HLA.out]; exact hcx) hcx9 (by rw [HLA.out]; omega) (ok_limbs a)).at (blkF_sub g.blk1)
  have hsl2 : SlW g.w (some ⟨bY, 0, none⟩) capy (limbs b) := (hsy.sl (by rw [HLB.out]; exact hcy) hcy9 (by rw [HLB.out]; omega) (ok_limbs b)).at (blkF_sub g.blk0)
  clear hka
  generalize hta : tz a = ta at *
  generalize htb : tz b = tb at *
  have HTA := Lib.hid hta
  have HTB := Lib.hid htb
  clear hta htb
  go_wp2_with (with_reducible refine G.any_mark _ ?_; (try generalize Array.size (World.heap (G.w _)) = bk); (try dsimp only [List.set_cons_zero, List.set_cons_succ]); (try clear g); intro g)
  refine (CT1.out _ hsl1).mono ?_
  rintro e w1 ⟨rfl, rfl⟩
  go_wp2_with (with_reducible refine G.any_mark _ ?_; (try generalize Array.size (World.heap (G.w _)) = bk); (try dsimp only [List.set_cons_zero, List.set_cons_succ]); (try clear g); intro g)
  refine (CT2.out _ hsl2).mono ?_
  rintro e w1 ⟨rfl, rfl⟩
  clear hsl1 hsl2
  have HSX := Lib.hid hsx
  have HSY := Lib.hid hsy
  clear hsx hsy
  obtain ⟨K, hK⟩ : ∃ K, min ta tb = K := ⟨_, rfl⟩
  have hmin : min (ta : Int) (tb : Int) = (K : Int) := by omega
  have HK := Lib.hid hK
  have CO1 := Lib.hid (fun w hb => (by
    have := rodd_any bx 0 la capx csx (limbs a) w hb HSX.out HLA.out hcx hcx9 (by omega) (ok_limbs a) (by rw [val_limbs]; exact HA.out)
    rw [val_limbs] at this
    exact this : Calls Tryz.prog 98 #[.slice (some ⟨bx, 0, none⟩) la capx] w (ROdd bx 0 capx la a csx.length w)))
  have CO2 := Lib.hid (fun w hb => (by
    have := rodd_any bY 0 lb capy csy (limbs b) w hb HSY.out HLB.out hcy hcy9 (by omega) (ok_limbs b) (by rw [val_limbs]; exact HB.out)
    rw [val_limbs] at this
    exact this : Calls Tryz.prog 98 #[.slice (some ⟨bY, 0, none⟩) lb capy] w (ROdd bY 0 capy lb b csy.length w)))
  clear hK
  go_wp2_with (with_reducible refine G.any_mark _ ?_; (try generalize Array.size (World.heap (G.w _)) = bk); (try dsimp only [List.set_cons_zero, List.set_cons_succ]); (try clear g); intro g)
  refine (CO1.out _ g.blk1).mono ?_
  rintro e w1 ⟨qx, csx', rfl, hqx, hqx2, hch, hhb, hsx, hcl⟩
  obtain ⟨g1, rfl⟩ := G.mut1 g hch hhb
  clear hch hhb CO1 hcl
  (try clear g)
  revert g1
  intro g
  rw [Nat.zero_add] at hsx
  rw [Nat.zero_add]
  go_wp2_with (with_reducible refine G.any_mark _ ?_; (try generalize Array.size (World.heap (G.w _)) = bk); (try dsimp only [List.set_cons_zero, List.set_cons_succ]); (try clear g); intro g)
  refine (CO2.out _ g.blk0).mono ?_
  rintro e w1 ⟨qy, csy', rfl, hqy, hqy2, hch, hhb, hsy, hcl⟩
  obtain ⟨g1, rfl⟩ := G.mut0 g hch hhb
  clear hch hhb CO2 hcl HSX HSY CT1 CT2
  (try clear g)
  revert g1
  intro g
  rw [Nat.zero_add] at hsy
  rw [Nat.zero_add]
  have hpx : (limbs (od a)).length ≤ capx - qx := by omega
  have hpy : (limbs (od b)).length ≤ capy - qy := by omega
  have hpx9 : capx - qx ≤ 9223372036854775807 := by omega
  have hpy9 : capy - qy ≤ 9223372036854775807 := by omega
  have hlx : (limbs (od a)).length ≤ 100000000 := by omega
  have hly : (limbs (od b)).length ≤ 100000000 := by omega
  have CC := Lib.hid (fun w h1 h2 => rOrder_any (some ⟨bx, qx, none⟩) (some ⟨bY, qy, none⟩) (capx - qx) (capy - qy) (od a) (od b) w h1 h2 (by omega))
  have hslx : SlW g.w (some ⟨bx, qx, none⟩) (capx - qx) (limbs (od a)) := (hsx.sl hpx hpx9 (by omega) (ok_limbs _)).at (blkF_sub g.blk1)
  have hsly : SlW g.w (some ⟨bY, qy, none⟩) (capy - qy) (limbs (od b)) := (hsy.sl hpy hpy9 (by omega) (ok_limbs _)).at (blkF_sub g.blk0)
  have HSX := Lib.hid hsx
  have HSY := Lib.hid hsy
  clear hsx hsy hqx hqx2 hqy hqy2 hcx hcx9 hcy hcy9
  obtain ⟨ox, rfl⟩ : ∃ ox, ox = qx := ⟨_, rfl⟩
  obtain ⟨oy, rfl⟩ : ∃ oy, oy = qy := ⟨_, rfl⟩
  obtain ⟨px, hpxe⟩ : ∃ px, capx - ox = px := ⟨_, rfl⟩
  obtain ⟨py, hpye⟩ : ∃ py, capy - oy = py := ⟨_, rfl⟩
  rw [hpxe] at CC hslx hpx hpx9 ⊢
  rw [hpye] at CC hsly hpy hpy9 ⊢
  clear hpxe hpye
  obtain ⟨X0, hX0⟩ : ∃ X0, od a = X0 := ⟨_, rfl⟩
  obtain ⟨Y0, hY0⟩ : ∃ Y0, od b = Y0 := ⟨_, rfl⟩
  rw [hX0] at CC hslx hpx hlx HSX HOA ⊢
  rw [hY0] at CC hsly hpy hly HSY HOB ⊢
  have HX0 := Lib.hid hX0
  have HY0 := Lib.hid hY0
  clear hX0 hY0
  go_wp2_with (with_reducible refine G.any_mark _ ?_; (try generalize Array.size (World.heap (G.w _)) = bk); (try dsimp only [List.set_cons_zero, List.set_cons_succ]); (try clear g); intro g)
  refine (CC.out _ hslx hsly).mono ?_
  rintro e w1 ⟨rfl, hb⟩
  obtain ⟨g1, rfl⟩ := G.call_ex _ hb
  clear hb hslx hsly CC
  (try clear g)
  revert g1
  intro g
  obtain ⟨g2, hg2⟩ := g.perm (List.Perm.swap _ _ _)
  rw [hg2]
  clear hg2 g
  revert g2
  intro g
  go_wp2_with (with_reducible refine G.any_mark _ ?_; (try generalize Array.size (World.heap (G.w _)) = bk); (try dsimp only [List.set_cons_zero, List.set_cons_succ]); (try clear g); intro g)
  go_loopg [5, 6, 8] (X0 + Y0) (fun gk s5 s6 s8 wr => ∃ (X Y bx ox px bY oy py : Nat) (csx csy : List Value), s5 = .slice (some ⟨bx, ox, none⟩) (limbs X).length px ∧ s6 = .slice (some ⟨bY, oy, none⟩) (limbs Y).length py ∧ s8 = .int .i64 (ord X Y) ∧ X + Y ≤ gk ∧ Hid (X % 2 = 1 ∧ Y % 2 = 1 ∧ Nat.gcd X Y = Nat.gcd X0 Y0) ∧ (limbs X).length ≤ px ∧ px ≤ 9223372036854775807 ∧ (limbs X).length ≤ 100000000 ∧ (limbs Y).length ≤ py ∧ py ≤ 9223372036854775807 ∧ (limbs Y).length ≤ 100000000 ∧ Hid (Seg csx ox (limbs X)) ∧ Hid (Seg csy oy (limbs Y)) ∧ w.heap.size ≤ bx ∧ w.heap.size ≤ bY ∧ ∃ g : G w [] [(bx, 29, csx), (bY, 29, csy)] [F0], wr = g.w)
  case atStart => exact ⟨X0, Y0, bx, ox, px, bY, oy, py, _, _, rfl, rfl, rfl, Nat.le_refl _, Lib.hid ⟨HOA.out, HOB.out, rfl⟩, hpx, hpx9, hlx, hpy, hpy9, hly, HSX, HSY, hbx, hbY, g, rfl⟩
  case round =>
    clear g hbx hbY HSX HSY hpx hpx9 hlx hpy hpy9 hly HOA HOB
    obtain ⟨ko, rfl⟩ : ∃ ko, ko = gk := ⟨_, rfl⟩
    obtain ⟨X, Y, ux, ox, px, uy, oy, py, csx, csy, rfl, rfl, rfl, hgk, HI, hpx, hpx9, hlx, hpy, hpy9, hly, HSX, HSY, hux, huy, g, rfl⟩ := hrel
    by_cases heq : X = Y
    · subst heq
      have hXg : X = Nat.gcd X0 Y0 := by
        have := HI.out.2.2
        rwa [Nat.gcd_self] at this
      have hX0 : X ≠ 0 := by have := HI.out.1; omega
      have hlc : ord X X = 0 := ord_self X
      rw [hlc]
      have hres : X * 2 ^ K = Nat.gcd a b := by
        rw [gcd_parts HA.out HB.out, HTA.out, HTB.out, HX0.out, HY0.out, HK.out, ← hXg]
      clear hlc
      have hale : Nat.gcd a b ≤ a := Nat.gcd_le_left b (Nat.pos_of_ne_zero HA.out)
      have hgl : (limbs (Nat.gcd a b)).length ≤ 100000000 := Nat.le_trans (limbs_len_mono hale) (by rw [HLA.out]; exact hl1)
      have hg0 : Nat.gcd a b ≠ 0 := by rw [← hres]; exact Nat.mul_ne_zero hX0 (Nat.ne_of_gt (Nat.two_pow_pos K))
      obtain ⟨D, hD⟩ : ∃ D, Nat.gcd a b = D := ⟨_, rfl⟩
      rw [hD] at hres hgl hg0
      have HD := Lib.hid hD
      have HGL := Lib.hid hgl
      have HG0 := Lib.hid hg0
      have hslX : (blkF ux (.cells csx.toArray 29 (0, 0))).Sl (some ⟨ux, ox, none⟩) px (limbs X) := HSX.out.sl hpx hpx9 (by omega) (ok_limbs X)
      have hovX : (blkF ux (.cells csx.toArray 29 (0, 0))).over F0 w := fun k o hk => .inr (by rw [blkF_at hk]; exact hux)
      obtain ⟨g2, hg2⟩ := g.less (M' := [(ux, 29, csx)]) (by simp)
      rw [hg2]
      clear hg2 g
      revert g2
      intro g
      obtain ⟨g2, hg2⟩ := g.frz hux
      rw [hg2]
      clear hg2 g
      revert g2
      intro g
      generalize blkF ux (.cells csx.toArray 29 (0, 0)) = F at *
      have HRES := Lib.hid hres
      have HSLX := Lib.hid hslX
      have HOVX := Lib.hid hovX
      clear hres hslX hovX hale hgl hg0 hD hXg HI hX0 HSX HSY hux huy hpx hpx9 hlx hpy hpy9 hly
      generalize (some (⟨ux, ox, none⟩ : Addr)) = AX at *
      have hK9 : K ≤ 3200000000 := by
        have h5 := tz_len (ok_limbs a) (by rw [val_limbs]; exact HA.out)
        rw [val_limbs, HTA.out, HLA.out] at h5
        have h6 := HK.out
        omega
      obtain ⟨i0, hi, hz0, hz1, hz2⟩ := info_parts infoU32
      clear hmin HK HTA HTB HLA HLB HX0 HY0 HA HB CC1 CC2
      go_wp2_with (with_reducible refine G.any_mark _ ?_; (try generalize Array.size (World.heap (G.w _)) = bk); (try dsimp only [List.set_cons_zero, List.set_cons_succ]); (try clear g); intro g)
      obtain ⟨tw, rfl⟩ : ∃ tw, tw = bk := ⟨_, rfl⟩
      go_loopg [5, 7] (K / 32) (fun gk s5 s7 wr => ∃ (V K' : Nat) (A : Option Addr) (c : Nat) (F : Frag), s5 = .slice A (limbs V).length c ∧ s7 = .int .i64 K' ∧ K' / 32 = gk ∧ K' ≤ 3200000000 ∧ Hid (V * 2 ^ K' = D) ∧ Hid (F.Sl A c (limbs V)) ∧ Hid (F.over F0 w) ∧ ∃ g : G w [] [(tw, 29, [.int .u32 2])] [F, F0], wr = g.w)
      case atStart => exact ⟨X, K, AX, px, F, rfl, rfl, rfl, hK9, HRES, HSLX, HOVX, g, rfl⟩
      case round =>
        clear g HRES HSLX HOVX hK9
        obtain ⟨k3, rfl⟩ : ∃ k3, k3 = gk := ⟨_, rfl⟩
        obtain ⟨V, K', A, c, F, rfl, rfl, hgk3, hK9, HR, HS, HO, g, rfl⟩ := hrel
        have hV0 : V ≠ 0 := by rintro rfl; exact HG0.out (by rw [← HR.out, Nat.zero_mul])
        have hVD : V ≤ D := by rw [← HR.out]; exact Nat.le_mul_of_pos_right _ (Nat.two_pow_pos K')
        have hVl : (limbs V).length ≤ 100000000 := Nat.le_trans (limbs_len_mono hVD) HGL.out
        have hVp : 0 < (limbs V).length := (limbs_ne hV0).2
        by_cases h32 : 32 ≤ K'
        · have hi32 : (32 : Int) ≤ (K' : Int) := by omega
          have hw32 : IntKind.i64.wrap ((K' : Int) - 32) = (K' : Int) - 32 := by rw [IntKind.wrap_i64]; omega
          have hrow1 : Row 29 1 1 (u32s [0]) 1 (u32s [0]) := ⟨Nat.le_refl _, by decide, rfl, rfl, rfl⟩
          have hsh := limbs_shift hV0 1
          rw [Nat.pow_one] at hsh
          have HSH := Lib.hid hsh
          have hlV : (limbs (V * 4294967296)).length = 1 + (limbs V).length := by rw [← hsh, List.length_append, List.length_replicate]
          have HLV := Lib.hid hlV
          have HUP : Hid (0 < (u32s (limbs V)).length) := Lib.hid (by rw [u32s_len]; exact hVp)
          have hR2 : V * 4294967296 * 2 ^ (K' - 32) = D := by
            rw [← HR.out, Nat.mul_assoc]
            congr 1
            rw [show (4294967296 : Nat) = 2 ^ 32 from rfl, ← Nat.pow_add]
            congr 1
            omega
          have HR2 := Lib.hid hR2
          have HVP := Lib.hid hVp
          have HB9 : Hid (1 + (limbs V).length ≤ maxLen ∧ (1 + (limbs V).length) * 4 ≤ 140737488355328) := Lib.hid ⟨by show _ ≤ 9223372036854775807; omega, by omega⟩
          clear hsh hlV hR2 hV0 hVD hVp
          go_wp2_with (first | (with_reducible refine G.any_mark _ ?_; (try generalize Array.size (World.heap (G.w _)) = bk); (try dsimp only [List.set_cons_zero, List.set_cons_succ]); (try clear g); intro g) | (at_builtin; refine wpList_append_rowx rfl _ _ 23 22 rfl 29 i0 _ 1 4 Tryz.underlying23 Tryz.underlying22 hi hz0 hz1 hz2 rfl (by decide) g hrow1 (g.fresh (List.mem_cons_self ..)) rfl (limbs V).length c (u32s (limbs V)) A rfl (by rw [u32s_len, Nat.mul_one]) (lim_src g (by simp) HS.out.lim HUP.out) (u32s_one _) HVP.out HB9.out.1 HB9.out.2 ?_; clear g; intro b2 cap2 cs2 g hb2 hr2))
          have HSH2 : [0] ++ limbs V = limbs (V * 4294967296) := HSH.out
          rw [← u32s_append, HSH2] at hr2
          have hsl2 := sl_row (b := b2) hr2 HLV.out (by omega) (ok_limbs _)
          obtain ⟨g2, hg2⟩ := g.frz hb2
          obtain ⟨g3, hg3⟩ := g2.lessI (I' := [blkF b2 (.cells cs2.toArray 29 (0, 0)), F0]) (by simp)
          go_roundg (k3 - 1)
          case measure => omega
          case rel => exact ⟨V * 4294967296, K' - 32, _, _, _, by rw [HLV.out], by congr 1; omega, by omega, by omega, HR2, Lib.hid hsl2, Lib.hid (fun k o hk => .inr (by rw [blkF_at hk]; exact hb2)), g3, hg2.trans hg3⟩
        · have hi32 : ¬ (32 : Int) ≤ (K' : Int) := by omega
          clear hV0 hVD hVl hVp
          go_wp2_with (with_reducible refine G.any_mark _ ?_; (try generalize Array.size (World.heap (G.w _)) = bk); (try dsimp only [List.set_cons_zero, List.set_cons_succ]); (try clear g); intro g)
          go_loopg [5, 7] K' (fun gk s5 s7 wr => ∃ (V : Nat) (A : Option Addr) (c : Nat) (F : Frag), s5 = .slice A (limbs V).length c ∧ s7 = .int .i64 gk ∧ gk < 32 ∧ Hid (V * 2 ^ gk = D) ∧ Hid (F.Sl A c (limbs V)) ∧ Hid (F.over F0 w) ∧ ∃ g : G w [] [(tw, 29, [.int .u32 2])] [F, F0], wr = g.w)
          case atStart => exact ⟨V, A, c, F, rfl, rfl, by omega, HR, HS, HO, g, rfl⟩
          case round =>
            clear g HR HS HO hi32 hgk3 hK9 h32
            obtain ⟨V, A, c, F, rfl, rfl, hk32, HR, HS, HO, g, rfl⟩ := hrel
            rcases gk with _ | k4
            · have hVD : V = D := by have := HR.out; rwa [Nat.pow_zero, Nat.mul_one] at this
              have HVD := Lib.hid hVD
              clear hVD
              go_wp2_with (with_reducible refine G.any_mark _ ?_; (try generalize Array.size (World.heap (G.w _)) = bk); (try dsimp only [List.set_cons_zero, List.set_cons_succ]); (try clear g); intro g)
              go_ret
              refine ⟨A, c, F, by rw [HD.out, ← HVD.out]; rfl, by rw [HD.out, ← HVD.out]; exact HS.out, g.passOr (by simp) HO.out⟩
            · have hV0 : V ≠ 0 := by rintro rfl; exact HG0.out (by rw [← HR.out, Nat.zero_mul])
              have hVD : V ≤ D := by rw [← HR.out]; exact Nat.le_mul_of_pos_right _ (Nat.two_pow_pos _)
              have hVl : (limbs V).length ≤ 100000000 := Nat.le_trans (limbs_len_mono hVD) HGL.out
              have hl2 : limbs 2 = [2] := limbs_one (by decide) (by decide)
              have CT := Lib.hid (fun w h1 h2 => (by
                have := rTimes_any A (some ⟨tw, 0, none⟩) c 1 V 2 w h1 h2 (by omega) (by rw [hl2]; simp)
                rw [show (limbs 2).length = 1 by rw [hl2]; rfl] at this
                exact this : Calls Tryz.prog 88 #[.slice A (limbs V).length c, .slice (some ⟨tw, 0, none⟩) 1 1] w (RNat (V * 2) w)))
              have hslt : SlW g.w (some ⟨tw, 0, none⟩) 1 (limbs 2) := by
                rw [hl2]
                exact (sl_blk (l := [2]) (by simp) (by decide) (by intro x hx; simp at hx; omega)).at (blkF_sub g.blk0)
              have hR2 : V * 2 * 2 ^ k4 = D := by rw [← HR.out, Nat.mul_assoc, ← Nat.pow_succ']
              have HR2 := Lib.hid hR2
              have hkp : (0 : Int) < ((k4 + 1 : Nat) : Int) := by omega
              have hk4 : ((k4 + 1 : Nat) : Int) = (k4 : Int) + 1 := by omega
              clear hR2 hV0 hVD hl2
              go_wp2_with (with_reducible refine G.any_mark _ ?_; (try generalize Array.size (World.heap (G.w _)) = bk); (try dsimp only [List.set_cons_zero, List.set_cons_succ]); (try clear g); intro g)
              refine (CT.out _ (G.sl g (by simp) HS.out) hslt).mono ?_
              rintro e w1 ⟨Y, y, P, rfl, hy, hn⟩
              have ho := New.over hn F0 (G.chg _).size
              obtain ⟨g1, rfl⟩ := G.new_ex _ hn
              clear hn hslt
              (try clear g)
              revert g1
              intro g
              go_wp2_with (with_reducible refine G.any_mark _ ?_; (try generalize Array.size (World.heap (G.w _)) = bk); (try dsimp only [List.set_cons_zero, List.set_cons_succ]); (try clear g); intro g)
              obtain ⟨g3, hg3⟩ := g.lessI (I' := [P, F0]) (by simp)
              go_roundg k4
              case measure => omega
              case rel => exact ⟨V * 2, Y, y, P, rfl, rfl, by omega, HR2, Lib.hid hy, Lib.hid ho, g3, hg3⟩
    · have h2 : X < Y ∨ Y < X := by omega
      have hcne : (ord X Y == 0) = false := by rw [beq_eq_false_iff_ne]; exact fun h => heq (ord_eq h)
      have hcne3 : (ord X Y != 0) = true := by rw [bne, hcne]; rfl
      have hcne2 : ¬ ord X Y = 0 := fun h => heq (ord_eq h)
      rcases h2 with hlt | hlt
      all_goals
        first
        | (have hsg : ord X Y < 0 := ord_neg hlt
           generalize ord X Y = cv at *
           obtain ⟨g2, hg2⟩ := g.perm (List.Perm.swap _ _ _)
           rw [hg2]
           clear hg2 g
           revert g2
           intro g
           obtain ⟨Z, rfl⟩ : ∃ Z, Z = Y := ⟨_, rfl⟩
           obtain ⟨S, rfl⟩ : ∃ S, S = X := ⟨_, rfl⟩
           obtain ⟨bz, rfl⟩ : ∃ bz, bz = uy := ⟨_, rfl⟩
           obtain ⟨bs, rfl⟩ : ∃ bs, bs = ux := ⟨_, rfl⟩
           obtain ⟨oz, rfl⟩ : ∃ oz, oz = oy := ⟨_, rfl⟩
           obtain ⟨os, rfl⟩ : ∃ os, os = ox := ⟨_, rfl⟩
           obtain ⟨pz, rfl⟩ : ∃ pz, pz = py := ⟨_, rfl⟩
           obtain ⟨ps, rfl⟩ : ∃ ps, ps = px := ⟨_, rfl⟩
           obtain ⟨csz, rfl⟩ : ∃ csz, csz = csy := ⟨_, rfl⟩
           obtain ⟨css, rfl⟩ : ∃ css, css = csx := ⟨_, rfl⟩
           have HI2 : Hid (Z % 2 = 1 ∧ S % 2 = 1 ∧ Nat.gcd Z S = Nat.gcd X0 Y0) := Lib.hid ⟨HI.out.2.1, HI.out.1, by rw [Nat.gcd_comm]; exact HI.out.2.2⟩
           have HSZ := HSY
           have HSS := HSX
           have hpz := hpy
           have hpz9 := hpy9
           have hlz := hly
           have hps := hpx
           have hps9 := hpx9
           have hls := hlx
           have huz := huy
           have hus := hux
           clear HI HSX HSY hpx hpx9 hlx hpy hpy9 hly hux huy)
        | (have hsg : ¬ ord X Y < 0 := fun h => by rw [ord_pos hlt] at h; omega
           generalize ord X Y = cv at *
           obtain ⟨Z, rfl⟩ : ∃ Z, Z = X := ⟨_, rfl⟩
           obtain ⟨S, rfl⟩ : ∃ S, S = Y := ⟨_, rfl⟩
           obtain ⟨bz, rfl⟩ : ∃ bz, bz = ux := ⟨_, rfl⟩
           obtain ⟨bs, rfl⟩ : ∃ bs, bs = uy := ⟨_, rfl⟩
           obtain ⟨oz, rfl⟩ : ∃ oz, oz = ox := ⟨_, rfl⟩
           obtain ⟨os, rfl⟩ : ∃ os, os = oy := ⟨_, rfl⟩
           obtain ⟨pz, rfl⟩ : ∃ pz, pz = px := ⟨_, rfl⟩
           obtain ⟨ps, rfl⟩ : ∃ ps, ps = py := ⟨_, rfl⟩
           obtain ⟨csz, rfl⟩ : ∃ csz, csz = csx := ⟨_, rfl⟩
           obtain ⟨css, rfl⟩ : ∃ css, css = csy := ⟨_, rfl⟩
           have HI2 := HI
           have HSZ := HSX
           have HSS := HSY
           have hpz := hpx
           have hpz9 := hpx9
           have hlz := hlx
           have hps := hpy
           have hps9 := hpy9
           have hls := hly
           have huz := hux
           have hus := huy
           clear HI HSX HSY hpx hpx9 hlx hpy hpy9 hly hux huy)
      all_goals
        clear heq
        generalize hnz : (limbs Z).length = nz at *
        generalize hns : (limbs S).length = ns at *
        have HNZ := Lib.hid hnz
        have HNS := Lib.hid hns
        clear hnz hns
        go_wp2_with (with_reducible refine G.any_mark _ ?_; (try generalize Array.size (World.heap (G.w _)) = bk); (try dsimp only [List.set_cons_zero, List.set_cons_succ]); (try clear g); intro g)
        go_loopg [9, 10] nz (fun gk2 s9 s56 wr => ∃ (k c : Nat) (pre : List Nat) (csz' : List Value), k + gk2 = nz ∧ s9 = .int .u64 (c : Int) ∧ s56 = .int .i64 k ∧ c ≤ 1 ∧ Hid (pre.length = k) ∧ Ok pre ∧ Hid (val pre + val ((limbs S).take k) = val ((limbs Z).take k) + 4294967296 ^ k * c) ∧ Hid (Seg csz' oz (pre ++ (limbs Z).drop k)) ∧ ∃ g : G w [] [(bz, 29, csz'), (bs, 29, css)] [F0], wr = g.w)
        case atStart => exact ⟨0, 0, [], csz, by omega, rfl, rfl, by omega, Lib.hid rfl, Ok.nil, Lib.hid (by simp [val]), Lib.hid (by rw [List.drop_zero, List.nil_append]; exact HSZ.out), g, rfl⟩
        case round =>
          clear g HSZ
          obtain ⟨k, c, pre, csz', hkg, rfl, rfl, hc1, HP, hpo, HV, HS, g, rfl⟩ := hrel
          have hLl : (pre ++ (limbs Z).drop k).length = nz := by rw [List.length_append, List.length_drop, HP.out, HNZ.out]; omega
          have HLn := Lib.hid hLl
          have hLo : Ok (pre ++ (limbs Z).drop k) := hpo.append ((ok_limbs Z).drop k)
          by_cases hk2 : k < nz
          · have e1 := HS.out.get k (by omega)
            rw [pre_get HP.out (Nat.le_refl _)] at e1
            have hx := (ok_limbs Z).getD k
            have hy := (ok_limbs S).getD k
            have st := Lib.hid (sub_step (ok_limbs Z) (ok_limbs S) hc1 HP.out HV.out)
            have e2 : k < ns → css[os + k]? = some (.int .u32 (((limbs S).getD k 0 : Nat) : Int)) := fun h => HSS.out.get k (by rw [HNS.out]; exact h)
            have e3 : ¬ k < ns → (limbs S).getD k 0 = 0 := fun h => by
              rw [List.getD_eq_getElem?_getD, List.getElem?_eq_none (by rw [HNS.out]; omega)]; rfl
            have HS2 : ∀ z, Hid (Seg (csz'.set (oz + k) (.int .u32 ((z : Nat) : Int))) oz ((pre ++ [z]) ++ (limbs Z).drop (k + 1))) := fun z => Lib.hid (by
              rw [← pre_set HP.out (by rw [HNZ.out]; exact hk2)]
              exact HS.out.set (by rw [HLn.out]; exact hk2) z)
            have HS3 := HS2 (((limbs Z).getD k 0 + 4294967296 - (limbs S).getD k 0 - c) % 4294967296)
            have hb2 := brw_le ((limbs Z).getD k 0) ((limbs S).getD k 0) c
            obtain ⟨f1, f2⟩ := sub64 hx hy hc1
            have hr : ((limbs Z).getD k 0 + 4294967296 - (limbs S).getD k 0 - c) % 4294967296 < 4294967296 := Nat.mod_lt _ (by decide)
            have hkn : (k : Int) < (nz : Int) := by omega
            clear HS2 hLl hLo
            generalize ((limbs Z).getD k 0 + 4294967296 - (limbs S).getD k 0 - c) % 4294967296 = r at *
            generalize brw ((limbs Z).getD k 0) ((limbs S).getD k 0) c = c2' at *
            generalize (limbs Z).getD k 0 = x at *
            generalize (limbs S).getD k 0 = y at *
            obtain ⟨d0, hd0⟩ : ∃ d0, IntKind.u64.wrap ((x : Int) - (c : Int)) = d0 := ⟨_, rfl⟩
            rw [hd0] at f1 f2
            by_cases hk3 : k < ns
            · have e4 := e2 hk3
              have hki : (k : Int) < (ns : Int) := by omega
              obtain ⟨d1, hd1⟩ : ∃ d1, IntKind.u64.wrap (d0 - (y : Int)) = d1 := ⟨_, rfl⟩
              obtain ⟨f3, f4, f5⟩ := f1
              rw [hd1] at f3 f4 f5
              have hwy : IntKind.u64.wrap (y : Int) = (y : Int) := by rw [IntKind.wrap_u64]; omega
              have hwx : IntKind.u64.wrap (x : Int) = (x : Int) := by rw [IntKind.wrap_u64]; omega
              clear e2 e3 f2
              go_wp2_with (with_reducible refine G.any_mark _ ?_; (try generalize Array.size (World.heap (G.w _)) = bk); (try dsimp only [List.set_cons_zero, List.set_cons_succ]); (try clear g); intro g)
              go_roundg (gk - 1)
              case measure => omega
              case rel => exact ⟨k + 1, c2', pre ++ [r], _, by omega, rfl, by go_num, hb2, Lib.hid (by rw [List.length_append, HP.out]; rfl), hpo.append (Ok.cons hr Ok.nil), st, HS3, g, rfl⟩
            · have hki : ¬ (k : Int) < (ns : Int) := by omega
              obtain ⟨f3, f4, f5⟩ := f2 (e3 hk3)
              have hwx : IntKind.u64.wrap (x : Int) = (x : Int) := by rw [IntKind.wrap_u64]; omega
              clear e2 e3 f1
              go_wp2_with (with_reducible refine G.any_mark _ ?_; (try generalize Array.size (World.heap (G.w _)) = bk); (try dsimp only [List.set_cons_zero, List.set_cons_succ]); (try clear g); intro g)
              go_roundg (gk - 1)
              case measure => omega
              case rel => exact ⟨k + 1, c2', pre ++ [r], _, by omega, rfl, by go_num, hb2, Lib.hid (by rw [List.length_append, HP.out]; rfl), hpo.append (Ok.cons hr Ok.nil), st, HS3, g, rfl⟩
          · obtain rfl : k = nz := by omega
            have hSZ : S < Z := hlt
            have hse := sub_end (l1 := limbs Z) (l2 := limbs S) hpo HP.out (by rw [HNZ.out]; exact Nat.le_refl _) (by rw [HNS.out, ← HNZ.out, ← HNS.out]; exact limbs_len_mono (by omega)) (by rw [val_limbs, val_limbs]; omega) HV.out
            obtain ⟨hpv, rfl⟩ := hse
            rw [val_limbs, val_limbs] at hpv
            have hnil : (limbs Z).drop k = [] := List.drop_of_length_le (by rw [HNZ.out]; exact Nat.le_refl _)
            have hsg2 := HS.out
            rw [hnil, List.append_nil] at hsg2
            have CO := Lib.hid (fun w hb => (by
              have := rodd_any bz oz k pz csz' pre w hb hsg2 HP.out hpz hpz9 (by omega) hpo (by rw [hpv]; omega)
              rw [hpv] at this
              exact this : Calls Tryz.prog 98 #[.slice (some ⟨bz, oz, none⟩) k pz] w (ROdd bz oz pz k (Z - S) csz'.length w)))
            have hd0 : Z - S ≠ 0 := by omega
            have hod := od_spec (Z - S) hd0
            have hole := od_le (Z - S)
            have HI3 : Hid (od (Z - S) % 2 = 1 ∧ S % 2 = 1 ∧ Nat.gcd (od (Z - S)) S = Nat.gcd X0 Y0) := Lib.hid ⟨hod.2, HI2.out.2.1, by rw [gcd_sub_odd hSZ HI2.out.2.1]; exact HI2.out.2.2⟩
            have hS1 : 0 < S := by have := HI2.out.2.1; omega
            clear hsg2 hnil hpv HV HS hLl hLo hod
            obtain ⟨X', hX'⟩ : ∃ X', od (Z - S) = X' := ⟨_, rfl⟩
            unfold ROdd at CO
            rw [hX'] at CO HI3 hole
            clear hX'
            go_wp2_with (with_reducible refine G.any_mark _ ?_; (try generalize Array.size (World.heap (G.w _)) = bk); (try dsimp only [List.set_cons_zero, List.set_cons_succ]); (try clear g); intro g)
            refine (CO.out _ g.blk0).mono ?_
            rintro e w1 ⟨q, cs2, rfl, hq1, hq2, hch, hhb, hsx, hcl⟩
            obtain ⟨g1, rfl⟩ := G.mut0 g hch hhb
            clear hch hhb CO hcl
            (try clear g)
            revert g1
            intro g
            have hX9 : (limbs X').length ≤ 100000000 := by omega
            have hXp : (limbs X').length ≤ pz - q := by omega
            have hXp9 : pz - q ≤ 9223372036854775807 := by omega
            have CC2 := Lib.hid (fun w h1 h2 => (by
              have := rOrder_any (some ⟨bz, oz + q, none⟩) (some ⟨bs, os, none⟩) (pz - q) ps X' S w h1 h2 (by omega)
              rw [HNS.out] at this
              exact this : Calls Tryz.prog 90 #[.slice (some ⟨bz, oz + q, none⟩) (limbs X').length (pz - q), .slice (some ⟨bs, os, none⟩) ns ps] w fun e w' => e = .returned (.int .i64 (ord X' S)) ∧ Below w.heap.size w w'))
            have hsl1 : SlW g.w (some ⟨bz, oz + q, none⟩) (pz - q) (limbs X') := (hsx.sl hXp hXp9 (by omega) (ok_limbs X')).at (blkF_sub g.blk0)
            have hsl2 : SlW g.w (some ⟨bs, os, none⟩) ps (limbs S) := (HSS.out.sl (by rw [HNS.out]; exact hps) hps9 (by rw [HNS.out]; omega) (ok_limbs S)).at (blkF_sub g.blk1)
            have HSX' := Lib.hid hsx
            clear hsx
            go_wp2_with (with_reducible refine G.any_mark _ ?_; (try generalize Array.size (World.heap (G.w _)) = bk); (try dsimp only [List.set_cons_zero, List.set_cons_succ]); (try clear g); intro g)
            refine (CC2.out _ hsl1 hsl2).mono ?_
            rintro e w1 ⟨rfl, hb⟩
            obtain ⟨g1, rfl⟩ := G.call_ex _ hb
            clear hb hsl1 hsl2
            (try clear g)
            revert g1
            intro g
            go_wp2_with (with_reducible refine G.any_mark _ ?_; (try generalize Array.size (World.heap (G.w _)) = bk); (try dsimp only [List.set_cons_zero, List.set_cons_succ]); (try clear g); intro g)
            go_roundg (ko - 1)
            case measure => omega
            case rel => exact ⟨X', S, bz, oz + q, pz - q, bs, os, ps, cs2, css, rfl, by rw [HNS.out], rfl, by omega, HI3, hXp, hXp9, hX9, by rw [HNS.out]; exact hps, hps9, by rw [HNS.out]; exact hls, HSX', HSS, huz, hus, g, rfl⟩
theorem rgcd_any (F0 : Frag) (A1 A2 : Option Addr) (c1 c2 a b : Nat) (w : World) (hF : F0.sub w) (h1 : F0.Sl A1 c1 (limbs a)) (h2 : F0.Sl A2 c2 (limbs b)) (hl1 : (limbs a).length ≤ 100000000) (hl2 : (limbs b).length ≤ 100000000) :
    Calls Tryz.prog 64 #[.slice A1 (limbs a).length c1, .slice A2 (limbs b).length c2] w (RAli F0 (Nat.gcd a b) w) := by
  by_cases ha : a = 0
  · subst ha
    refine calls_f hF fun g => ?_
    rw [Nat.gcd_zero_left]
    rw [show (limbs 0).length = 0 from limbs_len0]
    go_enter Tryz.func64, Tryz.ntmps64
    go_wp2_with (with_reducible refine G.any_mark _ ?_; (try generalize Array.size (World.heap (G.w _)) = bk); (try dsimp only [List.set_cons_zero, List.set_cons_succ]); (try clear g); intro g)
    go_ret
    exact ⟨A2, c2, F0, rfl, h2, g.passOr (by simp) (Frag.over_self _ _)⟩
  · by_cases hb : b = 0
    · subst hb
      refine calls_f hF fun g => ?_
      have hn := (limbs_ne ha).1
      rw [Nat.gcd_zero_right]
      rw [show (limbs 0).length = 0 from limbs_len0]
      obtain ⟨n, hn2⟩ : ∃ n, (limbs a).length = n := ⟨_, rfl⟩
      rw [hn2] at hn ⊢
      have HN := Lib.hid hn2
      clear hn2
      go_enter Tryz.func64, Tryz.ntmps64
      go_wp2_with (with_reducible refine G.any_mark _ ?_; (try generalize Array.size (World.heap (G.w _)) = bk); (try dsimp only [List.set_cons_zero, List.set_cons_succ]); (try clear g); intro g)
      go_ret
      exact ⟨A1, c1, F0, by rw [HN.out]; rfl, h1, g.passOr (by simp) (Frag.over_self _ _)⟩
    · exact rgcd_main F0 A1 A2 c1 c2 a b w hF h1 h2 ha hb hl1 hl2
end Go.Proofs.YtjdnpkicdmapnaaGreatDoor
namespace Go.Proofs.YtjdnpkicdmapnaaGreatDoor
open Go.RowKit GW NL
set_option maxRecDepth 20000 in
set_option maxHeartbeats 4000000 in
theorem rLow_any (s : Bool) (A1 A2 : Option Addr) (c1 c2 n d : Nat) (w : World) (h1 : SlW w A1 c1 (limbs n)) (h2 : SlW w A2 c2 (limbs d)) (hl1 : (limbs n).length ≤ 10000000) (hl2 : (limbs d).length ≤ 10000000) (hd : d ≠ 0) :
    Calls Tryz.prog 74 #[.bool s, .slice A1 (limbs n).length c1, .slice A2 (limbs d).length c2] w (RNf (frac s n d) w) := by
  refine calls_b fun g => ?_
  have H1 := Lib.hid h1
  have H2 := Lib.hid h2
  have CI := Lib.hid (fun w h => isone_any A2 c2 d w h)
  have CG := Lib.hid (fun F w hF h1 h2 => rgcd_any F A1 A2 c1 c2 n d w hF h1 h2 (by omega) (by omega))
  unfold RNf
  rw [frac_rneg s hd, frac_rn s hd, frac_den s hd]
  obtain ⟨G', hG⟩ : ∃ G', Nat.gcd n d = G' := ⟨_, rfl⟩
  rw [hG] at CG ⊢
  have hG0 : G' ≠ 0 := by rw [← hG]; exact Nat.ne_of_gt (Nat.gcd_pos_of_pos_right n (Nat.pos_of_ne_zero hd))
  have hgl : (limbs G').length ≤ 10000000 := Nat.le_trans (limbs_len_mono (by rw [← hG]; exact Nat.gcd_le_right n (Nat.pos_of_ne_zero hd))) hl2
  have CIG := Lib.hid (fun A c w h => isone_any A c G' w h)
  have CQ1 := Lib.hid (fun A c w h1 h2 => rquot_any A1 A c1 c n G' w h1 h2 hl1 hgl hG0)
  have CQ2 := Lib.hid (fun A c w h1 h2 => rquot_any A2 A c2 c d G' w h1 h2 hl2 hgl hG0)
  have hle1 : (limbs (n / G')).length ≤ 10000000 := Nat.le_trans (limbs_len_mono (Nat.div_le_self _ _)) hl1
  have hle2 : (limbs (d / G')).length ≤ 10000000 := Nat.le_trans (limbs_len_mono (Nat.div_le_self _ _)) hl2
  have COn := Lib.hid (fun A c w h => own_any A c (limbs (n / G')) w h (by omega))
  have COd := Lib.hid (fun A c w h => own_any A c (limbs (d / G')) w h (by omega))
  have hn0 : (n ≠ 0 ↔ 0 < (limbs (n / G')).length) := by
    have hq : n / G' = 0 ↔ n = 0 := by
      rw [← hG]
      constructor
      · intro h
        have := Nat.div_mul_cancel (Nat.gcd_dvd_left n d)
        rw [h, Nat.zero_mul] at this
        exact this.symm
      · rintro rfl; exact Nat.zero_div _
    constructor
    · intro h; exact (limbs_ne (fun h2 => h (hq.1 h2))).2
    · rintro h rfl; rw [Nat.zero_div, limbs_len0] at h; omega
  obtain ⟨bb, hbb⟩ : ∃ bb, (s && decide (n ≠ 0)) = bb := ⟨_, rfl⟩
  rw [hbb]
  have hbb2 : (s && decide ((0 : Int) < ((limbs (n / G')).length : Int))) = bb := by
    rw [← hbb]; congr 1; exact decide_eq_decide.2 ⟨fun h => hn0.2 (by omega), fun h => by have := hn0.1 h; omega⟩
  unfold RLim at COn COd
  unfold RNN at CQ1 CQ2
  by_cases hG1 : G' = 1
  · -- nothing in common
    rw [decide_eq_true hG1] at CIG
    subst hG1
    rw [Nat.div_one] at COn COd hbb2 ⊢
    rw [Nat.div_one]
    generalize (limbs n).length = ln at *
    generalize hld : (limbs d).length = ld at *
    clear hle1 hle2 hn0 hbb CQ1 CQ2 hgl hG0 hG h1 h2
    have hbs : (s = false ∧ bb = false) ∨ (s = true ∧ decide (0 < ln) = bb) := by
      rcases s with _ | _
      · left; exact ⟨rfl, by rw [← hbb2, Bool.false_and]⟩
      · right; exact ⟨rfl, by rw [← hbb2, Bool.true_and]; exact decide_eq_decide.2 (by omega)⟩
    clear hbb2
    by_cases hd1 : d = 1
    · rw [decide_eq_true hd1] at CI
      have HD := Lib.hid hd
      clear hd1 hd CIG CG
      rcases hbs with ⟨rfl, hbb3⟩ | ⟨rfl, hbb3⟩
      all_goals
        go_enter Tryz.func74, Tryz.ntmps74
        go_wp2_with (with_reducible refine G.any_mark _ ?_; (try generalize Array.size (World.heap (G.w _)) = bk); (try dsimp only [List.set_cons_zero, List.set_cons_succ]); (try clear g); intro g)
        refine (CI.out _ (G.sl g (by simp) H2.out)).mono ?_
        rintro e w1 ⟨rfl, rfl⟩
        go_wp2_with (with_reducible refine G.any_mark _ ?_; (try generalize Array.size (World.heap (G.w _)) = bk); (try dsimp only [List.set_cons_zero, List.set_cons_succ]); (try clear g); intro g)
        refine (COn.out A1 c1 _ (G.sl g (by simp) H1.out)).mono ?_
        rintro e w1 ⟨X, x, P, rfl, hx, hn1⟩
        have ho1 := fun k o hk => Nat.le_trans (G.chg _).size (hn1.new k o hk)
        obtain ⟨g1, rfl⟩ := G.new_ex _ hn1
        clear hn1
        (try clear g)
        revert g1
        intro g
        go_wp2_with (with_reducible refine G.any_mark _ ?_; (try generalize Array.size (World.heap (G.w _)) = bk); (try dsimp only [List.set_cons_zero, List.set_cons_succ]); (try clear g); intro g)
        refine (COd.out A2 c2 _ (G.sl g (by simp) H2.out)).mono ?_
        rintro e w1 ⟨Y, y, Q, rfl, hy, hn2⟩
        have ho2 := fun k o hk => Nat.le_trans (G.chg _).size (hn2.new k o hk)
        obtain ⟨g1, rfl⟩ := G.new_ex _ hn2
        clear hn2
        (try clear g)
        revert g1
        intro g
        go_wp2_with (with_reducible refine G.any_mark _ ?_; (try generalize Array.size (World.heap (G.w _)) = bk); (try dsimp only [List.set_cons_zero, List.set_cons_succ]); (try clear g); intro g)
        refine bodyPost_ret (v := .agg #[.bool bb, .slice X ln x, .slice Y ld y]) (by first | (simp [results, Tryz.results74, go_sem]; done) | (simp [results, Tryz.results74, go_sem, hbb3]; done)) rfl ?_
        exact ⟨X, x, P, Y, y, Q, rfl, hx, hy, G.pass _ (by simp) ho1, G.pass _ (by simp) ho2⟩
    · rw [decide_eq_false hd1] at CI
      have HD := Lib.hid hd
      clear hd1 hd
      rcases hbs with ⟨rfl, hbb3⟩ | ⟨rfl, hbb3⟩
      all_goals
        go_enter Tryz.func74, Tryz.ntmps74
        go_wp2_with (with_reducible refine G.any_mark _ ?_; (try generalize Array.size (World.heap (G.w _)) = bk); (try dsimp only [List.set_cons_zero, List.set_cons_succ]); (try clear g); intro g)
        refine (CI.out _ (G.sl g (by simp) H2.out)).mono ?_
        rintro e w1 ⟨rfl, rfl⟩
        go_wp2_with (with_reducible refine G.any_mark _ ?_; (try generalize Array.size (World.heap (G.w _)) = bk); (try dsimp only [List.set_cons_zero, List.set_cons_succ]); (try clear g); intro g)
        refine (CG.out (g.fr (heapOf w)) _ (g.fr_sub (by simp)) (g.fr_sl (by simp) (Frag.over_self _ _) H1.out) (g.fr_sl (by simp) (Frag.over_self _ _) H2.out)).mono ?_
        rintro e w1 ⟨Ag, cg, Fg, rfl, hsg, hng⟩
        obtain ⟨g1, rfl, hov⟩ := g.newor_ex hng
        clear hng
        (try clear g)
        revert g1
        intro g
        go_wp2_with (with_reducible refine G.any_mark _ ?_; (try generalize Array.size (World.heap (G.w _)) = bk); (try dsimp only [List.set_cons_zero, List.set_cons_succ]); (try clear g); intro g)
        refine (CIG.out Ag cg _ (G.sl g (by simp) hsg)).mono ?_
        rintro e w1 ⟨rfl, rfl⟩
        go_wp2_with (with_reducible refine G.any_mark _ ?_; (try generalize Array.size (World.heap (G.w _)) = bk); (try dsimp only [List.set_cons_zero, List.set_cons_succ]); (try clear g); intro g)
        refine (COn.out A1 c1 _ (G.sl g (by simp) H1.out)).mono ?_
        rintro e w1 ⟨X, x, P, rfl, hx, hn1⟩
        have ho1 := fun k o hk => Nat.le_trans (G.chg _).size (hn1.new k o hk)
        obtain ⟨g1, rfl⟩ := G.new_ex _ hn1
        clear hn1
        (try clear g)
        revert g1
        intro g
        go_wp2_with (with_reducible refine G.any_mark _ ?_; (try generalize Array.size (World.heap (G.w _)) = bk); (try dsimp only [List.set_cons_zero, List.set_cons_succ]); (try clear g); intro g)
        refine (COd.out A2 c2 _ (G.sl g (by simp) H2.out)).mono ?_
        rintro e w1 ⟨Y, y, Q, rfl, hy, hn2⟩
        have ho2 := fun k o hk => Nat.le_trans (G.chg _).size (hn2.new k o hk)
        obtain ⟨g1, rfl⟩ := G.new_ex _ hn2
        clear hn2
        (try clear g)
        revert g1
        intro g
        go_wp2_with (with_reducible refine G.any_mark _ ?_; (try generalize Array.size (World.heap (G.w _)) = bk); (try dsimp only [List.set_cons_zero, List.set_cons_succ]); (try clear g); intro g)
        refine bodyPost_ret (v := .agg #[.bool bb, .slice X ln x, .slice Y ld y]) (by first | (simp [results, Tryz.results74, go_sem]; done) | (simp [results, Tryz.results74, go_sem, hbb3]; done)) rfl ?_
        exact ⟨X, x, P, Y, y, Q, rfl, hx, hy, G.pass _ (by simp) ho1, G.pass _ (by simp) ho2⟩
  · rw [decide_eq_false hG1] at CIG
    have hd1 : d ≠ 1 := by rintro rfl; apply hG1; rw [← hG]; exact Nat.gcd_one_right n
    rw [decide_eq_false hd1] at CI
    have HD := Lib.hid hd
    generalize (limbs n).length = la at *
    generalize (limbs d).length = lb at *
    generalize (limbs (n / G')).length = ln at *
    generalize (limbs (d / G')).length = ld at *
    have hbs : (s = false ∧ bb = false) ∨ (s = true ∧ decide (0 < ln) = bb) := by
      rcases s with _ | _
      · left; exact ⟨rfl, by rw [← hbb2, Bool.false_and]⟩
      · right; exact ⟨rfl, by rw [← hbb2, Bool.true_and]; exact decide_eq_decide.2 (by omega)⟩
    clear hbb2 hbb hn0 hG hG0 hgl hG1 hd1 hd h1 h2
    rcases hbs with ⟨rfl, hbb3⟩ | ⟨rfl, hbb3⟩
    all_goals
      go_enter Tryz.func74, Tryz.ntmps74
      go_wp2_with (with_reducible refine G.any_mark _ ?_; (try generalize Array.size (World.heap (G.w _)) = bk); (try dsimp only [List.set_cons_zero, List.set_cons_succ]); (try clear g); intro g)
      refine (CI.out _ (G.sl g (by simp) H2.out)).mono ?_
      rintro e w1 ⟨rfl, rfl⟩
      go_wp2_with (with_reducible refine G.any_mark _ ?_; (try generalize Array.size (World.heap (G.w _)) = bk); (try dsimp only [List.set_cons_zero, List.set_cons_succ]); (try clear g); intro g)
      refine (CG.out (g.fr (heapOf w)) _ (g.fr_sub (by simp)) (g.fr_sl (by simp) (Frag.over_self _ _) H1.out) (g.fr_sl (by simp) (Frag.over_self _ _) H2.out)).mono ?_
      rintro e w1 ⟨Ag, cg, Fg, rfl, hsg, hng⟩
      obtain ⟨g1, rfl, hov⟩ := g.newor_ex hng
      clear hng
      (try clear g)
      revert g1
      intro g
      go_wp2_with (with_reducible refine G.any_mark _ ?_; (try generalize Array.size (World.heap (G.w _)) = bk); (try dsimp only [List.set_cons_zero, List.set_cons_succ]); (try clear g); intro g)
      refine (CIG.out Ag cg _ (G.sl g (by simp) hsg)).mono ?_
      rintro e w1 ⟨rfl, rfl⟩
      go_wp2_with (with_reducible refine G.any_mark _ ?_; (try generalize Array.size (World.heap (G.w _)) = bk); (try dsimp only [List.set_cons_zero, List.set_cons_succ]); (try clear g); intro g)
      refine (CQ1.out Ag cg _ (G.sl g (by simp) H1.out) (G.sl g (by simp) hsg)).mono ?_
      rintro e w1 ⟨B1, b1, F1, B2, b2, F2, rfl, hq1, hq2, hn1, hn2⟩
      obtain ⟨g1, rfl⟩ := G.new2_ex _ hn1 hn2
      clear hn1 hn2 hq2
      (try clear g)
      revert g1
      intro g
      go_wp2_with (with_reducible refine G.any_mark _ ?_; (try generalize Array.size (World.heap (G.w _)) = bk); (try dsimp only [List.set_cons_zero, List.set_cons_succ]); (try clear g); intro g)
      refine (CQ2.out Ag cg _ (G.sl g (by simp) H2.out) (G.sl g (by simp) hsg)).mono ?_
      rintro e w1 ⟨B3, b3, F3, B4, b4, F4, rfl, hq3, hq4, hn1, hn2⟩
      obtain ⟨g1, rfl⟩ := G.new2_ex _ hn1 hn2
      clear hn1 hn2 hq4
      (try clear g)
      revert g1
      intro g
      go_wp2_with (with_reducible refine G.any_mark _ ?_; (try generalize Array.size (World.heap (G.w _)) = bk); (try dsimp only [List.set_cons_zero, List.set_cons_succ]); (try clear g); intro g)
      refine (COn.out B1 b1 _ (G.sl g (by simp) hq1)).mono ?_
      rintro e w1 ⟨X, x, P, rfl, hx, hn1⟩
      have ho1 := fun k o hk => Nat.le_trans (G.chg _).size (hn1.new k o hk)
      obtain ⟨g1, rfl⟩ := G.new_ex _ hn1
      clear hn1
      (try clear g)
      revert g1
      intro g
      go_wp2_with (with_reducible refine G.any_mark _ ?_; (try generalize Array.size (World.heap (G.w _)) = bk); (try dsimp only [List.set_cons_zero, List.set_cons_succ]); (try clear g); intro g)
      refine (COd.out B3 b3 _ (G.sl g (by simp) hq3)).mono ?_
      rintro e w1 ⟨Y, y, Q, rfl, hy, hn2⟩
      have ho2 := fun k o hk => Nat.le_trans (G.chg _).size (hn2.new k o hk)
      obtain ⟨g1, rfl⟩ := G.new_ex _ hn2
      clear hn2
      (try clear g)
      revert g1
      intro g
      go_wp2_with (with_reducible refine G.any_mark _ ?_; (try generalize Array.size (World.heap (G.w _)) = bk); (try dsimp only [List.set_cons_zero, List.set_cons_succ]); (try clear g); intro g)
      refine bodyPost_ret (v := .agg #[.bool bb, .slice X ln x, .slice Y ld y]) (by first | (simp [results, Tryz.results74, go_sem]; done) | (simp [results, Tryz.results74, go_sem, hbb3]; done)) rfl ?_
      exact ⟨X, x, P, Y, y, Q, rfl, hx, hy, G.pass _ (by simp) ho1, G.pass _ (by simp) ho2⟩
end Go.Proofs.YtjdnpkicdmapnaaGreatDoor
namespace Go.Proofs.YtjdnpkicdmapnaaGreatDoor
open Go.RowKit GW NL
set_option maxRecDepth 20000 in
set_option maxHeartbeats 2000000 in
theorem rMinus_any (s : Bool) (A1 A2 : Option Addr) (c1 c2 n d : Nat) (w : World) (h1 : SlW w A1 c1 (limbs n)) (h2 : SlW w A2 c2 (limbs d)) (hl1 : (limbs n).length ≤ 10000000) (hl2 : (limbs d).length ≤ 10000000) :
    Calls Tryz.prog 43 #[.agg #[.bool s, .slice A1 (limbs n).length c1, .slice A2 (limbs d).length c2]] w fun e w' => ∃ A c F B k H, e = .returned (.agg #[.bool (!s && decide (n ≠ 0)), .slice A (limbs n).length c, .slice B (limbs d).length k]) ∧ F.Sl A c (limbs n) ∧ H.Sl B k (limbs d) ∧ New w w' F ∧ New w w' H := by
  refine calls_b fun g => ?_
  have H1 := Lib.hid h1
  have H2 := Lib.hid h2
  have COn := Lib.hid (fun A c w h => own_any A c (limbs n) w h (by omega))
  have COd := Lib.hid (fun A c w h => own_any A c (limbs d) w h (by omega))
  unfold RLim at COn COd
  obtain ⟨bb, hbb⟩ : ∃ bb, (!s && decide (n ≠ 0)) = bb := ⟨_, rfl⟩
  rw [hbb]
  have hn0 : (n ≠ 0 ↔ 0 < (limbs n).length) := ⟨fun h => (limbs_ne h).2, fun h e => by rw [e, limbs_len0] at h; omega⟩
  generalize (limbs n).length = ln at *
  generalize (limbs d).length = ld at *
  have hbs : (s = true ∧ bb = false) ∨ (s = false ∧ decide (0 < ln) = bb) := by
    rcases s with _ | _
    · right; exact ⟨rfl, by rw [← hbb, Bool.not_false, Bool.true_and]; exact decide_eq_decide.2 hn0.symm⟩
    · left; exact ⟨rfl, by rw [← hbb, Bool.not_true, Bool.false_and]⟩
  clear hbb hn0 h1 h2
  rcases hbs with ⟨rfl, hbb3⟩ | ⟨rfl, hbb3⟩
  · subst hbb3
    go_enter Tryz.func43, Tryz.ntmps43
    go_wp2_with (with_reducible refine G.any_mark _ ?_; (try generalize Array.size (World.heap (G.w _)) = bk); (try dsimp only [List.set_cons_zero, List.set_cons_succ]); (try clear g); intro g)
    refine wp_region_held_drew (S := G.heldN g [false, true]) (by kernel_rfl) (by simp [G.heldN, HeldN, go_sem]) (fun hHeld => ?_)
    refine wpAnyH_take (i := 0) (v := ?_) rfl (by kernel_rfl) (by kernel_rfl) (by kernel_rfl) (fun _ _ _ h => h) (Or.inl ⟨by rfl, ?_⟩) (by assumption) ?_
    rotate_left 1
    · (intro w hSw; (try dsimp only at hSw); go_simp; (try with_reducible rfl))
    (try simp only [Act.put, List.setIfInBounds_toArray, List.set_cons_zero, List.set_cons_succ])
    refine wpAnyH_take (i := 1) (v := ?_) rfl (by kernel_rfl) (by kernel_rfl) (by kernel_rfl) (fun _ _ _ h => h) (Or.inl ⟨by rfl, ?_⟩) (by assumption) ?_
    rotate_left 1
    · (intro w hSw; (try dsimp only at hSw); go_simp; (try with_reducible rfl))
    (try simp only [Act.put, List.setIfInBounds_toArray, List.set_cons_zero, List.set_cons_succ])
    refine wpAnyH_take (i := 2) (v := ?_) rfl (by kernel_rfl) (by kernel_rfl) (by kernel_rfl) (fun _ _ _ h => h) (Or.inl ⟨by rfl, ?_⟩) (by assumption) ?_
    rotate_left 1
    · (intro w hSw; (try dsimp only at hSw); go_simp; (try with_reducible rfl))
    (try simp only [Act.put, List.setIfInBounds_toArray, List.set_cons_zero, List.set_cons_succ])
    refine wpAnyH_take (i := 3) (v := ?_) rfl (by kernel_rfl) (by kernel_rfl) (by kernel_rfl) (fun _ _ _ h => h) (Or.inl ⟨by rfl, ?_⟩) (by assumption) ?_
    rotate_left 1
    · (intro w hSw; (try dsimp only at hSw); go_simp; (try with_reducible rfl))
    (try simp only [Act.put, List.setIfInBounds_toArray, List.set_cons_zero, List.set_cons_succ])
    refine wpAnyH_take (i := 4) (v := undef) rfl (by kernel_rfl) (by kernel_rfl) (by kernel_rfl) (fun _ _ _ h => h) (Or.inr ⟨by rfl, rfl⟩) (by assumption) ?_
    (try simp only [Act.put, List.setIfInBounds_toArray, List.set_cons_zero, List.set_cons_succ])
    refine wpAnyH_take (i := 5) (v := undef) rfl (by kernel_rfl) (by kernel_rfl) (by kernel_rfl) (fun _ _ _ h => h) (Or.inr ⟨by rfl, rfl⟩) (by assumption) ?_
    (try simp only [Act.put, List.setIfInBounds_toArray, List.set_cons_zero, List.set_cons_succ])
    refine wpAnyH_take (i := 6) (v := undef) rfl (by kernel_rfl) (by kernel_rfl) (by kernel_rfl) (fun _ _ _ h => h) (Or.inr ⟨by rfl, rfl⟩) (by assumption) ?_
    (try simp only [Act.put, List.setIfInBounds_toArray, List.set_cons_zero, List.set_cons_succ])
    refine wpAnyH_take (i := 7) (v := undef) rfl (by kernel_rfl) (by kernel_rfl) (by kernel_rfl) (fun _ _ _ h => h) (Or.inr ⟨by rfl, rfl⟩) (by assumption) ?_
    (try simp only [Act.put, List.setIfInBounds_toArray, List.set_cons_zero, List.set_cons_succ])
    refine wpAnyH_take (i := 8) (v := ?_) rfl (by kernel_rfl) (by kernel_rfl) (by kernel_rfl) (fun _ _ _ h => h) (Or.inl ⟨by rfl, ?_⟩) (by assumption) ?_
    rotate_left 1
    · (intro w hSw; (try dsimp only at hSw); go_simp; (try with_reducible rfl))
    (try simp only [Act.put, List.setIfInBounds_toArray, List.set_cons_zero, List.set_cons_succ])
    refine wpAnyH_take (i := 9) (v := ?_) rfl (by kernel_rfl) (by kernel_rfl) (by kernel_rfl) (fun _ _ _ h => h) (Or.inl ⟨by rfl, ?_⟩) (by assumption) ?_
    rotate_left 1
    · (intro w hSw; (try dsimp only at hSw); go_simp; (try with_reducible rfl))
    (try simp only [Act.put, List.setIfInBounds_toArray, List.set_cons_zero, List.set_cons_succ])
    refine wpAnyH_take (i := 10) (v := ?_) rfl (by kernel_rfl) (by kernel_rfl) (by kernel_rfl) (fun _ _ _ h => h) (Or.inl ⟨by rfl, ?_⟩) (by assumption) ?_
    rotate_left 1
    · (intro w hSw; (try dsimp only at hSw); go_simp; (try with_reducible rfl))
    (try simp only [Act.put, List.setIfInBounds_toArray, List.set_cons_zero, List.set_cons_succ])
    refine wpAnyH_take (i := 12) (v := ?_) rfl (by kernel_rfl) (by kernel_rfl) (by kernel_rfl) (fun _ _ _ h => h) (Or.inl ⟨by rfl, ?_⟩) (by assumption) ?_
    rotate_left 1
    · (intro w hSw; (try dsimp only at hSw); go_simp; (try with_reducible rfl))
    (try simp only [Act.put, List.setIfInBounds_toArray, List.set_cons_zero, List.set_cons_succ])
    refine wpAnyH_take (i := 13) (v := ?_) rfl (by kernel_rfl) (by kernel_rfl) (by kernel_rfl) (fun _ _ _ h => h) (Or.inl ⟨by rfl, ?_⟩) (by assumption) ?_
    rotate_left 1
    · (intro w hSw; (try dsimp only at hSw); go_simp; (try with_reducible rfl))
    (try simp only [Act.put, List.setIfInBounds_toArray, List.set_cons_zero, List.set_cons_succ])
    refine wpAnyH_ready (rs := [11]) (by kernel_rfl) (by simp) ?_
    refine AllReadyH.cons rfl (fun K hK => ?_) AllReadyH.nil
    go_simp
    go_at_call 9
    (with_reducible refine (COn.out A1 c1 _ ?_).mono ?_); (· exact G.sl _ (by simp) H1.out)
    rintro e w1 ⟨X, x, P, rfl, hx, hn1⟩
    have ho1 := fun k o hk => Nat.le_trans (G.chg _).size (hn1.new k o hk)
    obtain ⟨g1, rfl⟩ := G.new_ex _ hn1
    clear hn1 hHeld
    refine hK.out _ _ (by simp [G.heldN, HeldN, go_sem]) (fun hHeld => ?_)
    clear hK K
    (try simp only [Act.put, List.setIfInBounds_toArray, List.set_cons_zero, List.set_cons_succ])
    refine wpAnyH_ready (rs := [14]) (by kernel_rfl) (by simp) ?_
    refine AllReadyH.cons rfl (fun K hK => ?_) AllReadyH.nil
    go_simp
    go_at_call 9
    (with_reducible refine (COd.out A2 c2 _ ?_).mono ?_); (· exact G.sl _ (by simp) H2.out)
    rintro e w1 ⟨Y, y, Q, rfl, hy, hn2⟩
    have ho2 := fun k o hk => Nat.le_trans (G.chg _).size (hn2.new k o hk)
    obtain ⟨g2, rfl⟩ := G.new_ex _ hn2
    clear hn2 hHeld
    refine hK.out _ _ (by simp [G.heldN, HeldN, go_sem]) (fun hHeld => ?_)
    clear hK K
    (try simp only [Act.put, List.setIfInBounds_toArray, List.set_cons_zero, List.set_cons_succ])
    refine wpAnyH_take (i := 15) (v := ?_) rfl (by kernel_rfl) (by kernel_rfl) (by kernel_rfl) (fun _ _ _ h => h) (Or.inl ⟨by rfl, ?_⟩) (by assumption) ?_
    rotate_left 1
    · (intro w hSw; (try dsimp only at hSw); go_simp; (try with_reducible rfl))
    (try simp only [Act.put, List.setIfInBounds_toArray, List.set_cons_zero, List.set_cons_succ])
    clear hHeld
    refine wpAnyH_ready (rs := [16]) (by kernel_rfl) (by simp) ?_
    refine AllReadyH.cons rfl (fun K hK => ?_) AllReadyH.nil
    go_simp
    refine hK.out _ _ (by simp [G.heldN, HeldN, go_sem]) (fun hHeld => ?_)
    clear hK K
    (try simp only [Act.put, List.setIfInBounds_toArray, List.set_cons_zero, List.set_cons_succ])
    refine wpAnyH_done (by kernel_rfl) ?_ _
    go_wp2_with (with_reducible refine G.any_mark _ ?_; (try generalize Array.size (World.heap (G.w _)) = bk); (try dsimp only [List.set_cons_zero, List.set_cons_succ]); (try clear g); intro g)
    refine bodyPost_ret (v := .agg #[.bool false, .slice X ln x, .slice Y ld y]) (by simp [results, Tryz.results43, go_sem]) rfl ?_
    exact ⟨X, x, P, Y, y, Q, rfl, hx, hy, G.pass _ (by simp) ho1, G.pass _ (by simp) ho2⟩
  · go_enter Tryz.func43, Tryz.ntmps43
    go_wp2_with (with_reducible refine G.any_mark _ ?_; (try generalize Array.size (World.heap (G.w _)) = bk); (try dsimp only [List.set_cons_zero, List.set_cons_succ]); (try clear g); intro g)
    go_region_held3 (G.heldN g [false, true]) (simp [G.heldN, HeldN, go_sem]) (first
      | (go_at_call 9; (with_reducible refine (COn.out A1 c1 _ ?_).mono ?_); (· exact G.sl _ (by simp) H1.out); rintro e w1 ⟨X, x, P, rfl, hx, hn1⟩; have ho1 := fun k o hk => Nat.le_trans (G.chg _).size (hn1.new k o hk); obtain ⟨g1, rfl⟩ := G.new_ex _ hn1; clear hn1; (try clear g); revert g1; intro g)
      | (go_at_call 9; (with_reducible refine (COd.out A2 c2 _ ?_).mono ?_); (· exact G.sl _ (by simp) H2.out); rintro e w1 ⟨Y, y, Q, rfl, hy, hn2⟩; have ho2 := fun k o hk => Nat.le_trans (G.chg _).size (hn2.new k o hk); obtain ⟨g1, rfl⟩ := G.new_ex _ hn2; clear hn2; (try clear g); revert g1; intro g))
    all_goals go_wp2_with (with_reducible refine G.any_mark _ ?_; (try generalize Array.size (World.heap (G.w _)) = bk); (try dsimp only [List.set_cons_zero, List.set_cons_succ]); (try clear g); intro g)
    all_goals refine bodyPost_ret (v := .agg #[.bool bb, .slice X ln x, .slice Y ld y]) (by first | (simp [results, Tryz.results43, go_sem]; done) | (simp [results, Tryz.results43, go_sem, hbb3]; done)) rfl ?_
    all_goals exact ⟨X, x, P, Y, y, Q, rfl, hx, hy, G.pass _ (by simp) ho1, G.pass _ (by simp) ho2⟩
end Go.Proofs.YtjdnpkicdmapnaaGreatDoor
namespace Go.Proofs.YtjdnpkicdmapnaaGreatDoor
open Go.RowKit GW NL
set_option maxRecDepth 20000 in
set_option maxHeartbeats 4000000 in
theorem rplus_same (s : Bool) (A1 B1 A2 B2 : Option Addr) (c1 k1 c2 k2 n1 d1 n2 d2 : Nat) (w : World) (h1 : SlW w A1 c1 (limbs n1)) (j1 : SlW w B1 k1 (limbs d1)) (h2 : SlW w A2 c2 (limbs n2)) (j2 : SlW w B2 k2 (limbs d2))
    (l1 : (limbs n1).length ≤ 1000000) (m1 : (limbs d1).length ≤ 1000000) (l2 : (limbs n2).length ≤ 1000000) (m2 : (limbs d2).length ≤ 1000000) (z1 : d1 ≠ 0) (z2 : d2 ≠ 0) :
    Calls Tryz.prog 48 #[.agg #[.bool s, .slice A1 (limbs n1).length c1, .slice B1 (limbs d1).length k1], .agg #[.bool s, .slice A2 (limbs n2).length c2, .slice B2 (limbs d2).length k2]] w (RNf (frac s n1 d1 + frac s n2 d2) w) := by
  refine calls_b fun g => ?_
  have C1 := Lib.hid (fun w a b => rTimes_any A1 B2 c1 k2 n1 d2 w a b (by omega) (by omega))
  have C2 := Lib.hid (fun w a b => rTimes_any A2 B1 c2 k1 n2 d1 w a b (by omega) (by omega))
  have C3 := Lib.hid (fun w a b => rTimes_any B1 B2 k1 k2 d1 d2 w a b (by omega) (by omega))
  have q1 := limbs_mul_len n1 d2
  have q2 := limbs_mul_len n2 d1
  have q3 := limbs_mul_len d1 d2
  have hd : d1 * d2 ≠ 0 := Nat.mul_ne_zero z1 z2
  rw [frac_add_same s z1 z2]
  have CA := Lib.hid (fun A1 A2 c1 c2 w a b => rPlus3_any A1 A2 c1 c2 (n1 * d2) (n2 * d1) w a b (by omega) (by omega))
  have q4 := limbs_add_len (n1 * d2) (n2 * d1)
  have CL := Lib.hid (fun A1 A2 c1 c2 w h1 h2 => rLow_any s A1 A2 c1 c2 (n1 * d2 + n2 * d1) (d1 * d2) w h1 h2 (by omega) (by omega) hd)
  unfold RNat at C1 C2 C3 CA
  unfold RNf at CL ⊢
  generalize frac s (n1 * d2 + n2 * d1) (d1 * d2) = z at *
  clear hd z1 z2
  generalize hX : n1 * d2 = X at *
  generalize hY : n2 * d1 = Y at *
  generalize hD : d1 * d2 = D at *
  clear hX hY hD
  generalize (limbs n1).length = ln1 at *
  generalize (limbs d1).length = ld1 at *
  generalize (limbs n2).length = ln2 at *
  generalize (limbs d2).length = ld2 at *
  generalize rneg z = sz at *
  generalize (limbs (rn z)).length = lz at *
  generalize (limbs z.den).length = mz at *
  cases s
  all_goals
    go_enter Tryz.func48, Tryz.ntmps48
    go_wp2_with (with_reducible refine G.any_mark _ ?_; (try generalize Array.size (World.heap (G.w _)) = bk); (try dsimp only [List.set_cons_zero, List.set_cons_succ]); (try clear g); intro g)
    go_region_held3 (G.heldN g [false, true, true]) (simp [G.heldN, HeldN, go_sem]) (first
      | (go_at_call 88; (with_reducible refine (C1.out _ ?_ ?_).mono ?_); (· exact G.sl _ (by simp) h1); (· exact G.sl _ (by simp) j2); rintro e w1 ⟨X1, x1, P1, rfl, hx1, hn1⟩; obtain ⟨g1, rfl⟩ := G.new_ex _ hn1; clear hn1; (try clear g); revert g1; intro g)
      | (go_at_call 88; (with_reducible refine (C2.out _ ?_ ?_).mono ?_); (· exact G.sl _ (by simp) h2); (· exact G.sl _ (by simp) j1); rintro e w1 ⟨X2, x2, P2, rfl, hx2, hn2⟩; obtain ⟨g1, rfl⟩ := G.new_ex _ hn2; clear hn2; (try clear g); revert g1; intro g))
    all_goals ((try simp only [G.drew_eq, G.drewN_eq]); (refine G.any_mark _ ?_; (try clear g); intro g))
    all_goals go_wp2_with (with_reducible refine G.any_mark _ ?_; (try generalize Array.size (World.heap (G.w _)) = bk); (try dsimp only [List.set_cons_zero, List.set_cons_succ]); (try clear g); intro g)
    (with_reducible refine (C3.out _ ?_ ?_).mono ?_)
    · exact G.sl _ (by simp) j1
    · exact G.sl _ (by simp) j2
    rintro e w1 ⟨X3, x3, P3, rfl, hx3, hn3⟩
    obtain ⟨g1, rfl⟩ := G.new_ex _ hn3
    clear hn3
    (try clear g)
    revert g1
    intro g
    go_wp2_with (with_reducible refine G.any_mark _ ?_; (try generalize Array.size (World.heap (G.w _)) = bk); (try dsimp only [List.set_cons_zero, List.set_cons_succ]); (try clear g); intro g)
    go_region_held3 (G.heldN g [false, true, true]) (simp [G.heldN, HeldN, go_sem]) (first
      | (go_at_call 89; (with_reducible refine (CA.out _ _ _ _ _ ?_ ?_).mono ?_); (· exact G.sl _ (by simp) hx1); (· exact G.sl _ (by simp) hx2); rintro e w1 ⟨X4, x4, P4, rfl, hx4, hn4⟩; obtain ⟨g1, rfl⟩ := G.new_ex _ hn4; clear hn4; (try clear g); revert g1; intro g)
      | (go_at_call 74; (with_reducible refine (CL.out _ _ _ _ _ ?_ ?_).mono ?_); (· exact G.sl _ (by simp) hx4); (· exact G.sl _ (by simp) hx3); rintro e w1 ⟨Y1, y1, Q1, Y2, y2, Q2, rfl, hy1, hy2, hn1, hn2⟩; have ho1 := fun k o hk => Nat.le_trans (G.chg _).size (hn1.new k o hk); have ho2 := fun k o hk => Nat.le_trans (G.chg _).size (hn2.new k o hk); obtain ⟨g1, rfl⟩ := G.new2_ex _ hn1 hn2; clear hn1 hn2; (try clear g); revert g1; intro g))
    all_goals (first | ((try simp only [G.drew_eq, G.drewN_eq]); (refine G.any_mark _ ?_; (try clear g); intro g)) | skip)
    all_goals go_wp2_with (with_reducible refine G.any_mark _ ?_; (try generalize Array.size (World.heap (G.w _)) = bk); (try dsimp only [List.set_cons_zero, List.set_cons_succ]); (try clear g); intro g)
    all_goals refine bodyPost_ret (v := .agg #[.bool sz, .slice Y1 lz y1, .slice Y2 mz y2]) (by simp [results, Tryz.results48, go_sem]) rfl ?_
    all_goals exact ⟨Y1, y1, Q1, Y2, y2, Q2, rfl, hy1, hy2, G.pass _ (by simp) ho1, G.pass _ (by simp) ho2⟩
set_option maxRecDepth 20000 in
set_option maxHeartbeats 4000000 in
theorem rplus_lt (s t : Bool) (A1 B1 A2 B2 : Option Addr) (c1 k1 c2 k2 n1 d1 n2 d2 : Nat) (w : World) (h1 : SlW w A1 c1 (limbs n1)) (j1 : SlW w B1 k1 (limbs d1)) (h2 : SlW w A2 c2 (limbs n2)) (j2 : SlW w B2 k2 (limbs d2))
    (l1 : (limbs n1).length ≤ 1000000) (m1 : (limbs d1).length ≤ 1000000) (l2 : (limbs n2).length ≤ 1000000) (m2 : (limbs d2).length ≤ 1000000) (z1 : d1 ≠ 0) (z2 : d2 ≠ 0) (hst : s ≠ t) (hlt : n1 * d2 < n2 * d1) :
    Calls Tryz.prog 48 #[.agg #[.bool s, .slice A1 (limbs n1).length c1, .slice B1 (limbs d1).length k1], .agg #[.bool t, .slice A2 (limbs n2).length c2, .slice B2 (limbs d2).length k2]] w (RNf (frac s n1 d1 + frac t n2 d2) w) := by
  refine calls_b fun g => ?_
  have C1 := Lib.hid (fun w a b => rTimes_any A1 B2 c1 k2 n1 d2 w a b (by omega) (by omega))
  have C2 := Lib.hid (fun w a b => rTimes_any A2 B1 c2 k1 n2 d1 w a b (by omega) (by omega))
  have C3 := Lib.hid (fun w a b => rTimes_any B1 B2 k1 k2 d1 d2 w a b (by omega) (by omega))
  have q1 := limbs_mul_len n1 d2
  have q2 := limbs_mul_len n2 d1
  have q3 := limbs_mul_len d1 d2
  have hd : d1 * d2 ≠ 0 := Nat.mul_ne_zero z1 z2
  rw [frac_add_lt hst z1 z2 hlt]
  have CC := Lib.hid (fun A1 A2 c1 c2 w a b => rOrder_any A1 A2 c1 c2 (n1 * d2) (n2 * d1) w a b (by omega))
  have CA := Lib.hid (fun A1 A2 c1 c2 w a b => rLess3_any A1 A2 c1 c2 (n2 * d1) (n1 * d2) w a b (by omega) (by omega))
  have q4 : (limbs (n2 * d1 - n1 * d2)).length ≤ (limbs (n2 * d1)).length := limbs_len_mono (Nat.sub_le _ _)
  have hcv : ord (n1 * d2) (n2 * d1) < 0 := ord_neg hlt
  generalize ord (n1 * d2) (n2 * d1) = cv at *
  have CL := Lib.hid (fun A1 A2 c1 c2 w h1 h2 => rLow_any t A1 A2 c1 c2 (n2 * d1 - n1 * d2) (d1 * d2) w h1 h2 (by omega) (by omega) hd)
  unfold RNat at C1 C2 C3 CA
  unfold RNf at CL ⊢
  generalize frac t (n2 * d1 - n1 * d2) (d1 * d2) = z at *
  clear hd z1 z2
  generalize hX : n1 * d2 = X at *
  generalize hY : n2 * d1 = Y at *
  generalize hD : d1 * d2 = D at *
  clear hX hY hD
  generalize (limbs n1).length = ln1 at *
  generalize (limbs d1).length = ld1 at *
  generalize (limbs n2).length = ln2 at *
  generalize (limbs d2).length = ld2 at *
  generalize rneg z = sz at *
  generalize (limbs (rn z)).length = lz at *
  generalize (limbs z.den).length = mz at *
  cases s <;> cases t <;> first | exact absurd rfl hst | skip
  all_goals
    go_enter Tryz.func48, Tryz.ntmps48
    go_wp2_with (with_reducible refine G.any_mark _ ?_; (try generalize Array.size (World.heap (G.w _)) = bk); (try dsimp only [List.set_cons_zero, List.set_cons_succ]); (try clear g); intro g)
    go_region_held3 (G.heldN g [false, true, true]) (simp [G.heldN, HeldN, go_sem]) (first
      | (go_at_call 88; (with_reducible refine (C1.out _ ?_ ?_).mono ?_); (· exact G.sl _ (by simp) h1); (· exact G.sl _ (by simp) j2); rintro e w1 ⟨X1, x1, P1, rfl, hx1, hn1⟩; obtain ⟨g1, rfl⟩ := G.new_ex _ hn1; clear hn1; (try clear g); revert g1; intro g)
      | (go_at_call 88; (with_reducible refine (C2.out _ ?_ ?_).mono ?_); (· exact G.sl _ (by simp) h2); (· exact G.sl _ (by simp) j1); rintro e w1 ⟨X2, x2, P2, rfl, hx2, hn2⟩; obtain ⟨g1, rfl⟩ := G.new_ex _ hn2; clear hn2; (try clear g); revert g1; intro g))
    all_goals ((try simp only [G.drew_eq, G.drewN_eq]); (refine G.any_mark _ ?_; (try clear g); intro g))
    all_goals go_wp2_with (with_reducible refine G.any_mark _ ?_; (try generalize Array.size (World.heap (G.w _)) = bk); (try dsimp only [List.set_cons_zero, List.set_cons_succ]); (try clear g); intro g)
    (with_reducible refine (C3.out _ ?_ ?_).mono ?_)
    · exact G.sl _ (by simp) j1
    · exact G.sl _ (by simp) j2
    rintro e w1 ⟨X3, x3, P3, rfl, hx3, hn3⟩
    obtain ⟨g1, rfl⟩ := G.new_ex _ hn3
    clear hn3
    (try clear g)
    revert g1
    intro g
    go_wp2_with (with_reducible refine G.any_mark _ ?_; (try generalize Array.size (World.heap (G.w _)) = bk); (try dsimp only [List.set_cons_zero, List.set_cons_succ]); (try clear g); intro g)
    (with_reducible refine (CC.out _ _ _ _ _ ?_ ?_).mono ?_)
    · exact G.sl _ (by simp) hx1
    · exact G.sl _ (by simp) hx2
    rintro e w1 ⟨rfl, hb⟩
    obtain ⟨g1, rfl⟩ := G.call_ex _ hb
    clear hb
    (try clear g)
    revert g1
    intro g
    go_wp2_with (with_reducible refine G.any_mark _ ?_; (try generalize Array.size (World.heap (G.w _)) = bk); (try dsimp only [List.set_cons_zero, List.set_cons_succ]); (try clear g); intro g)
    go_region_held3 (G.heldN g [false, true, true]) (simp [G.heldN, HeldN, go_sem]) (first
      | (go_at_call 91; (with_reducible refine (CA.out _ _ _ _ _ ?_ ?_).mono ?_); (· exact G.sl _ (by simp) hx2); (· exact G.sl _ (by simp) hx1); rintro e w1 ⟨X4, x4, P4, rfl, hx4, hn4⟩; obtain ⟨g1, rfl⟩ := G.new_ex _ hn4; clear hn4; (try clear g); revert g1; intro g)
      | (go_at_call 74; (with_reducible refine (CL.out _ _ _ _ _ ?_ ?_).mono ?_); (· exact G.sl _ (by simp) hx4); (· exact G.sl _ (by simp) hx3); rintro e w1 ⟨Y1, y1, Q1, Y2, y2, Q2, rfl, hy1, hy2, hn1, hn2⟩; have ho1 := fun k o hk => Nat.le_trans (G.chg _).size (hn1.new k o hk); have ho2 := fun k o hk => Nat.le_trans (G.chg _).size (hn2.new k o hk); obtain ⟨g1, rfl⟩ := G.new2_ex _ hn1 hn2; clear hn1 hn2; (try clear g); revert g1; intro g))
    all_goals (first | ((try simp only [G.drew_eq, G.drewN_eq]); (refine G.any_mark _ ?_; (try clear g); intro g)) | skip)
    all_goals go_wp2_with (with_reducible refine G.any_mark _ ?_; (try generalize Array.size (World.heap (G.w _)) = bk); (try dsimp only [List.set_cons_zero, List.set_cons_succ]); (try clear g); intro g)
    all_goals refine bodyPost_ret (v := .agg #[.bool sz, .slice Y1 lz y1, .slice Y2 mz y2]) (by simp [results, Tryz.results48, go_sem]) rfl ?_
    all_goals exact ⟨Y1, y1, Q1, Y2, y2, Q2, rfl, hy1, hy2, G.pass _ (by simp) ho1, G.pass _ (by simp) ho2⟩
set_option maxRecDepth 20000 in
set_option maxHeartbeats 4000000 in
theorem rplus_ge (s t : Bool) (A1 B1 A2 B2 : Option Addr) (c1 k1 c2 k2 n1 d1 n2 d2 : Nat) (w : World) (h1 : SlW w A1 c1 (limbs n1)) (j1 : SlW w B1 k1 (limbs d1)) (h2 : SlW w A2 c2 (limbs n2)) (j2 : SlW w B2 k2 (limbs d2))
    (l1 : (limbs n1).length ≤ 1000000) (m1 : (limbs d1).length ≤ 1000000) (l2 : (limbs n2).length ≤ 1000000) (m2 : (limbs d2).length ≤ 1000000) (z1 : d1 ≠ 0) (z2 : d2 ≠ 0) (hst : s ≠ t) (hlt : ¬ n1 * d2 < n2 * d1) :
    Calls Tryz.prog 48 #[.agg #[.bool s, .slice A1 (limbs n1).length c1, .slice B1 (limbs d1).length k1], .agg #[.bool t, .slice A2 (limbs n2).length c2, .slice B2 (limbs d2).length k2]] w (RNf (frac s n1 d1 + frac t n2 d2) w) := by
  refine calls_b fun g => ?_
  have C1 := Lib.hid (fun w a b => rTimes_any A1 B2 c1 k2 n1 d2 w a b (by omega) (by omega))
  have C2 := Lib.hid (fun w a b => rTimes_any A2 B1 c2 k1 n2 d1 w a b (by omega) (by omega))
  have C3 := Lib.hid (fun w a b => rTimes_any B1 B2 k1 k2 d1 d2 w a b (by omega) (by omega))
  have q1 := limbs_mul_len n1 d2
  have q2 := limbs_mul_len n2 d1
  have q3 := limbs_mul_len d1 d2
  have hd : d1 * d2 ≠ 0 := Nat.mul_ne_zero z1 z2
  rw [frac_add_ge hst z1 z2 hlt]
  have CC := Lib.hid (fun A1 A2 c1 c2 w a b => rOrder_any A1 A2 c1 c2 (n1 * d2) (n2 * d1) w a b (by omega))
  have CA := Lib.hid (fun A1 A2 c1 c2 w a b => rLess3_any A1 A2 c1 c2 (n1 * d2) (n2 * d1) w a b (by omega) (by omega))
  have q4 : (limbs (n1 * d2 - n2 * d1)).length ≤ (limbs (n1 * d2)).length := limbs_len_mono (Nat.sub_le _ _)
  have hcv : ¬ ord (n1 * d2) (n2 * d1) < 0 := (by unfold ord; rw [if_neg hlt]; split <;> decide)
  generalize ord (n1 * d2) (n2 * d1) = cv at *
  have CL := Lib.hid (fun A1 A2 c1 c2 w h1 h2 => rLow_any s A1 A2 c1 c2 (n1 * d2 - n2 * d1) (d1 * d2) w h1 h2 (by omega) (by omega) hd)
  unfold RNat at C1 C2 C3 CA
  unfold RNf at CL ⊢
  generalize frac s (n1 * d2 - n2 * d1) (d1 * d2) = z at *
  clear hd z1 z2
  generalize hX : n1 * d2 = X at *
  generalize hY : n2 * d1 = Y at *
  generalize hD : d1 * d2 = D at *
  clear hX hY hD
  generalize (limbs n1).length = ln1 at *
  generalize (limbs d1).length = ld1 at *
  generalize (limbs n2).length = ln2 at *
  generalize (limbs d2).length = ld2 at *
  generalize rneg z = sz at *
  generalize (limbs (rn z)).length = lz at *
  generalize (limbs z.den).length = mz at *
  cases s <;> cases t <;> first | exact absurd rfl hst | skip
  all_goals
    go_enter Tryz.func48, Tryz.ntmps48
    go_wp2_with (with_reducible refine G.any_mark _ ?_; (try generalize Array.size (World.heap (G.w _)) = bk); (try dsimp only [List.set_cons_zero, List.set_cons_succ]); (try clear g); intro g)
    go_region_held3 (G.heldN g [false, true, true]) (simp [G.heldN, HeldN, go_sem]) (first
      | (go_at_call 88; (with_reducible refine (C1.out _ ?_ ?_).mono ?_); (· exact G.sl _ (by simp) h1); (· exact G.sl _ (by simp) j2); rintro e w1 ⟨X1, x1, P1, rfl, hx1, hn1⟩; obtain ⟨g1, rfl⟩ := G.new_ex _ hn1; clear hn1; (try clear g); revert g1; intro g)
      | (go_at_call 88; (with_reducible refine (C2.out _ ?_ ?_).mono ?_); (· exact G.sl _ (by simp) h2); (· exact G.sl _ (by simp) j1); rintro e w1 ⟨X2, x2, P2, rfl, hx2, hn2⟩; obtain ⟨g1, rfl⟩ := G.new_ex _ hn2; clear hn2; (try clear g); revert g1; intro g))
    all_goals ((try simp only [G.drew_eq, G.drewN_eq]); (refine G.any_mark _ ?_; (try clear g); intro g))
    all_goals go_wp2_with (with_reducible refine G.any_mark _ ?_; (try generalize Array.size (World.heap (G.w _)) = bk); (try dsimp only [List.set_cons_zero, List.set_cons_succ]); (try clear g); intro g)
    (with_reducible refine (C3.out _ ?_ ?_).mono ?_)
    · exact G.sl _ (by simp) j1
    · exact G.sl _ (by simp) j2
    rintro e w1 ⟨X3, x3, P3, rfl, hx3, hn3⟩
    obtain ⟨g1, rfl⟩ := G.new_ex _ hn3
    clear hn3
    (try clear g)
    revert g1
    intro g
    go_wp2_with (with_reducible refine G.any_mark _ ?_; (try generalize Array.size (World.heap (G.w _)) = bk); (try dsimp only [List.set_cons_zero, List.set_cons_succ]); (try clear g); intro g)
    (with_reducible refine (CC.out _ _ _ _ _ ?_ ?_).mono ?_)
    · exact G.sl _ (by simp) hx1
    · exact G.sl _ (by simp) hx2
    rintro e w1 ⟨rfl, hb⟩
    obtain ⟨g1, rfl⟩ := G.call_ex _ hb
    clear hb
    (try clear g)
    revert g1
    intro g
    go_wp2_with (with_reducible refine G.any_mark _ ?_; (try generalize Array.size (World.heap (G.w _)) = bk); (try dsimp only [List.set_cons_zero, List.set_cons_succ]); (try clear g); intro g)
    go_region_held3 (G.heldN g [false, true, true]) (simp [G.heldN, HeldN, go_sem]) (first
      | (go_at_call 91; (with_reducible refine (CA.out _ _ _ _ _ ?_ ?_).mono ?_); (· exact G.sl _ (by simp) hx1); (· exact G.sl _ (by simp) hx2); rintro e w1 ⟨X4, x4, P4, rfl, hx4, hn4⟩; obtain ⟨g1, rfl⟩ := G.new_ex _ hn4; clear hn4; (try clear g); revert g1; intro g)
      | (go_at_call 74; (with_reducible refine (CL.out _ _ _ _ _ ?_ ?_).mono ?_); (· exact G.sl _ (by simp) hx4); (· exact G.sl _ (by simp) hx3); rintro e w1 ⟨Y1, y1, Q1, Y2, y2, Q2, rfl, hy1, hy2, hn1, hn2⟩; have ho1 := fun k o hk => Nat.le_trans (G.chg _).size (hn1.new k o hk); have ho2 := fun k o hk => Nat.le_trans (G.chg _).size (hn2.new k o hk); obtain ⟨g1, rfl⟩ := G.new2_ex _ hn1 hn2; clear hn1 hn2; (try clear g); revert g1; intro g))
    all_goals (first | ((try simp only [G.drew_eq, G.drewN_eq]); (refine G.any_mark _ ?_; (try clear g); intro g)) | skip)
    all_goals go_wp2_with (with_reducible refine G.any_mark _ ?_; (try generalize Array.size (World.heap (G.w _)) = bk); (try dsimp only [List.set_cons_zero, List.set_cons_succ]); (try clear g); intro g)
    all_goals refine bodyPost_ret (v := .agg #[.bool sz, .slice Y1 lz y1, .slice Y2 mz y2]) (by simp [results, Tryz.results48, go_sem]) rfl ?_
    all_goals exact ⟨Y1, y1, Q1, Y2, y2, Q2, rfl, hy1, hy2, G.pass _ (by simp) ho1, G.pass _ (by simp) ho2⟩
theorem rPlus_any (s1 s2 : Bool) (A1 B1 A2 B2 : Option Addr) (c1 k1 c2 k2 n1 d1 n2 d2 : Nat) (w : World) (h1 : SlW w A1 c1 (limbs n1)) (j1 : SlW w B1 k1 (limbs d1)) (h2 : SlW w A2 c2 (limbs n2)) (j2 : SlW w B2 k2 (limbs d2))
    (l1 : (limbs n1).length ≤ 1000000) (m1 : (limbs d1).length ≤ 1000000) (l2 : (limbs n2).length ≤ 1000000) (m2 : (limbs d2).length ≤ 1000000) (z1 : d1 ≠ 0) (z2 : d2 ≠ 0) :
    Calls Tryz.prog 48 #[.agg #[.bool s1, .slice A1 (limbs n1).length c1, .slice B1 (limbs d1).length k1], .agg #[.bool s2, .slice A2 (limbs n2).length c2, .slice B2 (limbs d2).length k2]] w (RNf (frac s1 n1 d1 + frac s2 n2 d2) w) := by
  by_cases hs : s1 = s2
  · subst hs
    exact rplus_same s1 A1 B1 A2 B2 c1 k1 c2 k2 n1 d1 n2 d2 w h1 j1 h2 j2 l1 m1 l2 m2 z1 z2
  · by_cases hlt : n1 * d2 < n2 * d1
    · exact rplus_lt s1 s2 A1 B1 A2 B2 c1 k1 c2 k2 n1 d1 n2 d2 w h1 j1 h2 j2 l1 m1 l2 m2 z1 z2 hs hlt
    · exact rplus_ge s1 s2 A1 B1 A2 B2 c1 k1 c2 k2 n1 d1 n2 d2 w h1 j1 h2 j2 l1 m1 l2 m2 z1 z2 hs hlt
end Go.Proofs.YtjdnpkicdmapnaaGreatDoor
namespace Go.Proofs.YtjdnpkicdmapnaaGreatDoor
open Go.RowKit GW NL
/-- what Make answers -/
def makX (s : Bool) (l m : List Nat) : Bool × Nat × Nat × Int := if chk l ≠ 0 then (false, 0, 0, chk l) else if chk m ≠ 0 then (false, 0, 0, chk m) else if val m = 0 then (false, 0, 0, 6) else outX (frac s (val l) (val m))
end Go.Proofs.YtjdnpkicdmapnaaGreatDoor
