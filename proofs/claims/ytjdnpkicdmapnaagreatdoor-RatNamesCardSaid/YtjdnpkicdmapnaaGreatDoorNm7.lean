/- Plain facts and contracts of functions of the program, out of walks. Their conditions stand ahead of each. -/
import Derived.Test.YtjdnpkicdmapnaaGreatDoorNm1
import Derived.Below
import Derived.BigQuiet
import Derived.Deep.Draws
import Derived.Deep.QuietTactic
import Derived.Deep.RegionHeld3
import Derived.Laws.NewBlocks
import Derived.Laws.OwnMore
import Derived.Laws.Pointers
import Derived.Laws.Rows
import Derived.Lib.Hide
import Derived.RowKit3
import Derived.StillTactics
import Derived.StillTailTactics
import Derived.Test.YtjdnpkicdmapnaaGreatDoorProg
import Derived.WalkKit
import Derived.WalkLawsBesides
import Derived.WalkSpells
set_option linter.unusedVariables false
set_option linter.unusedSimpArgs false
namespace Go.Proofs.YtjdnpkicdmapnaaGreatDoor
open Go.RowKit GW NL
/-- the error of limbs -/
def chk (l : List Nat) : Int := if 256 < l.length then 4 else if 0 < l.length ∧ l.getD (l.length - 1) 0 = 0 then 3 else 0
theorem check_any (A : Option Addr) (c : Nat) (l : List Nat) (w : World) (h : SlW w A c l) :
    Calls Tryz.prog 58 #[.slice A l.length c] w fun e w' => e = .returned (.int .i64 (chk l)) ∧ Below w.heap.size w w' := by
  have hm := h.len
  have hmm := h.max
  have hc := h.cap
  unfold chk
  by_cases h1 : 256 < l.length
  · rw [if_pos h1]
    generalize l.length = n at *
    go_enter Tryz.func58, Tryz.ntmps58
    go_wp2_with fail
    go_ret
    exact ⟨rfl, Below.refl _ _⟩
  · rw [if_neg h1]
    by_cases h0 : 0 < l.length
    · obtain ⟨b, o, rfl, hcell⟩ := limW_cell h.lim (by omega)
      have e1 := hcell (l.length - 1) (by omega)
      clear hcell h
      generalize l.getD (l.length - 1) 0 = x at e1 ⊢
      generalize l.length = m at *
      have h0' : (0 : Int) < (m : Int) := by omega
      by_cases hx : x = 0
      · rw [if_pos ⟨by omega, hx⟩]
        have hx1 : (((x : Nat) : Int) == 0) = true := by simp [hx]
        clear hx
        generalize ((x : Nat) : Int) = v at *
        go_enter Tryz.func58, Tryz.ntmps58
        go_wp2_with fail
        go_ret
        exact ⟨rfl, Below.refl _ _⟩
      · rw [if_neg (by omega)]
        have hx1 : (((x : Nat) : Int) == 0) = false := by simp [hx]
        clear hx
        generalize ((x : Nat) : Int) = v at *
        go_enter Tryz.func58, Tryz.ntmps58
        go_wp2_with fail
        go_ret
        exact ⟨rfl, Below.refl _ _⟩
    · rw [if_neg (by omega)]
      have hl : l.length = 0 := by omega
      rw [hl]
      go_enter Tryz.func58, Tryz.ntmps58
      go_wp2_with fail
      go_ret
      exact ⟨rfl, Below.refl _ _⟩
theorem ret_slice {A : Option Addr} {n m c : Nat} (h : n = m) : Ending.returned (.slice A n c) = .returned (.slice A m c) := by rw [h]
/-- trim: the limbs without zeros at the end; the slice keeps its address -/
theorem trim_any (A : Option Addr) (c : Nat) (l : List Nat) (w : World) (h : SlW w A c l) :
    Calls Tryz.prog 128 #[.slice A l.length c] w fun e w' => e = .returned (.slice A (limbs (val l)).length c) ∧ Below w.heap.size w w' := by
  have hm := h.len
  have hmm := h.max
  have hc := h.cap
  have hk := h.ok
  go_enter Tryz.func128, Tryz.ntmps128
  go_wp2_with fail
  go_loopw [0] (fun v wr => ∃ k : Nat, k ≤ l.length ∧ v = .slice A k c ∧ val (l.take k) = val l ∧ Below w.heap.size w wr) (fun v _ => match v with | .slice _ k _ => k | _ => 0)
  case atStart => exact ⟨l.length, Nat.le_refl _, rfl, by rw [List.take_length], Below.refl _ _⟩
  case round =>
    obtain ⟨k, hk1, rfl, hv, hb⟩ := hrel
    have HV := Lib.hid hv
    clear hv
    by_cases h0 : 0 < k
    · obtain ⟨b, o, rfl, hcell⟩ := limW_cell h.lim (by omega)
      have e1 := (World.cell?_of_block (hb.block _ (World.block_lt_of_cell? w _ (hcell (k - 1) (by omega))))).trans (hcell (k - 1) (by omega))
      clear hcell h
      have hn : (limbs (val l)).length ≤ k := by
        rw [← HV.out]
        have := limbs_len_le_of_ok (hk.take k)
        rw [List.length_take] at this
        omega
      have h0' : (0 : Int) < (k : Int) := by omega
      by_cases hx : l.getD (k - 1) 0 = 0
      · have hv' : val (l.take (k - 1)) = val l := by
          rw [← HV.out]
          have := val_take_getD l (k - 1)
          rw [show k - 1 + 1 = k by omega, hx] at this
          omega
        have HV' := Lib.hid hv'
        clear hv'
        have hx1 : (((l.getD (k - 1) 0 : Nat) : Int) == 0) = true := by simp only [hx]; rfl
        clear hx
        generalize ((l.getD (k - 1) 0 : Nat) : Int) = v at *
        go_wp2_with fail
        refine ⟨⟨k - 1, by omega, ?_, HV'.out, hb⟩, ?_⟩
        · rfl
        · dsimp only; omega
      · have hn' : (limbs (val l)).length = k := by
          have hl : (l.take k).length = k := by rw [List.length_take]; omega
          have t : Trim (l.take k) := by
            intro j hj
            rw [hl] at hj
            rw [getD_take (by omega), show j = k - 1 by omega]
            exact hx
          rw [← HV.out, limbs_val (hk.take k) t, hl]
        have HN := Lib.hid hn'
        clear hn'
        have hx1 : (((l.getD (k - 1) 0 : Nat) : Int) == 0) = false := by simp only [beq_eq_false_iff_ne, ne_eq]; omega
        clear hx
        generalize ((l.getD (k - 1) 0 : Nat) : Int) = v at *
        go_wp2_with fail
        go_ret
        exact ⟨ret_slice HN.out.symm, hb⟩
    · obtain rfl : k = 0 := by omega
      have hn' : (limbs (val l)).length = 0 := by
        have := HV.out
        rw [List.take_zero] at this
        rw [← this]
        rw [show val [] = 0 from rfl, limbs_zero]; rfl
      have HN := Lib.hid hn'
      clear hn'
      go_wp2_with fail
      go_ret
      exact ⟨ret_slice HN.out.symm, hb⟩
theorem ret_tup2 {k k' : IntKind} {a a' b b' : Int} (h : a = a') (h' : b = b') : Ending.returned (.tuple #[.int k a, .int k' b]) = .returned (.tuple #[.int k a', .int k' b']) := by rw [h, h']
theorem ret_int {k : IntKind} {a a' : Int} (h : a = a') : Ending.returned (.int k a) = .returned (.int k a') := by rw [h]
theorem add32_any (x y c : Nat) (hx : x < 4294967296) (hy : y < 4294967296) (hc : c < 4294967296) (w : World) :
    Calls Tryz.prog 120 #[.int .u32 x, .int .u32 y, .int .u32 c] w fun e w' => e = .returned (.tuple #[.int .u32 (((x + y + c) % 4294967296 : Nat) : Int), .int .u32 (((x + y + c) / 4294967296 : Nat) : Int)]) ∧ w = w' := by
  go_enter Tryz.func120, Tryz.ntmps120
  go_wp2_with fail
  go_ret2
  exact ⟨ret_tup2 (by omega) (by omega), rfl⟩
theorem sub32_any (x y c : Nat) (hx : x < 4294967296) (hy : y < 4294967296) (hc : c ≤ 1) (w : World) :
    Calls Tryz.prog 95 #[.int .u32 x, .int .u32 y, .int .u32 c] w fun e w' => e = .returned (.tuple #[.int .u32 (((x + 4294967296 - y - c) % 4294967296 : Nat) : Int), .int .u32 (brw x y c : Nat)]) ∧ w = w' := by
  have HB := Lib.hid (K3.borrow32 x y c hx hy hc)
  go_enter Tryz.func95, Tryz.ntmps95
  go_wp2_with fail
  go_ret2
  exact ⟨ret_tup2 (by omega) (by unfold brw; exact HB.out), rfl⟩
/-- the block of a carry -/
def CB (w : World) (b c : Nat) : Prop := w.heap[b]? = some (.cells [Value.int .u32 (c : Int)].toArray 172 (0, 0))
theorem cb_of {w : World} {b c : Nat} {a : Int} (h : w.heap[b]? = some (.cells [Value.int .u32 a].toArray 172 (0, 0))) (e : a = (c : Int)) : CB w b c := by subst e; exact h
theorem mul_bound (x y z c : Nat) (hx : x < 4294967296) (hy : y < 4294967296) (hz : z < 4294967296) (hc : c < 4294967296) : x * y + z + c < 18446744073709551616 ∧ x * y + z < 18446744073709551616 ∧ x * y < 18446744073709551616 := by
  have : x * y ≤ 4294967295 * 4294967295 := Nat.mul_le_mul (by omega) (by omega)
  omega
theorem cmul_any (b c x y z : Nat) (hx : x < 4294967296) (hy : y < 4294967296) (hz : z < 4294967296) (hc : c < 4294967296) (w : World) (hb : CB w b c) :
    Calls Tryz.prog 151 #[.pointer (some ⟨b, 0, none⟩), .int .u32 x, .int .u32 y, .int .u32 z] w fun e w' => e = .returned (.int .u32 (((x * y + z + c) % 4294967296 : Nat) : Int)) ∧ Chg [b] w w' ∧ CB w' b ((x * y + z + c) / 4294967296) := by
  refine calls_m hb fun g => ?_
  obtain ⟨m1, m2, m3⟩ := mul_bound x y z c hx hy hz hc
  have e0 : ((x * y : Nat) : Int) = (x : Int) * (y : Int) := by rw [Int.natCast_mul]
  obtain ⟨p, hp⟩ : ∃ p : Nat, x * y = p := ⟨_, rfl⟩
  rw [hp] at m1 m2 m3 e0 ⊢
  have e1 : IntKind.u64.wrap ((x : Int) * (y : Int)) = (p : Int) := by rw [← e0, IntKind.wrap_u64]; omega
  have E0 := Lib.hid e0
  clear e0 hp
  go_enter Tryz.func151, Tryz.ntmps151
  go_wp2_with fail
  go_ret
  exact ⟨ret_int (by omega), G.chg _, cb_of (G.blk0 _) (by omega)⟩
end Go.Proofs.YtjdnpkicdmapnaaGreatDoor
namespace Go.Proofs.YtjdnpkicdmapnaaGreatDoor
open Go.RowKit GW NL
theorem infoU32 : (Tryz.prog.info? 29).map (fun i => (i.zero, i.size, i.bytes)) = some (some (.int .u32 0), 1, 4) := by kernel_rfl
theorem madeU32 (n : Nat) : madeCells (Value.int .u32 0).cells (n * 1) = (u32s (List.replicate n 0)).toArray := by
  rw [u32s_zeros, Nat.mul_one]
  apply Array.toList_inj.1
  exact (toList_madeCells_one _ _).trans (by simp)
theorem make_nat (n : Nat) (hn : n ≤ 35184372088832) (w : World) : (Instr.makeSlice 23 (.int .i64 (n : Int)) (.int .i64 (n : Int))).run Tryz.prog w = .ok (.slice (some ⟨w.heap.size, 0, none⟩) n n) (w.alloc (.cells (u32s (List.replicate n 0)).toArray 29)) := by
  obtain ⟨i0, hi, hz0, hz1, hz2⟩ := info_parts infoU32
  have h := run_make (P := Tryz.prog) w 23 29 i0 _ Tryz.underlying23 hi hz0 .i64 .i64 n n (by omega) (by omega) (by rw [hz2]; omega) (by omega)
  rw [hz1] at h
  simp only [Int.toNat_natCast] at h
  rw [h, madeU32]
theorem u32s_zero_at {pre : List Nat} {k n : Nat} (hp : pre.length = k) (hk : k < n) : (u32s (pre ++ List.replicate (n - k) 0))[k]? = some (.int .u32 0) := by
  rw [u32s_get, List.getElem?_append_right (by omega), hp, Nat.sub_self, List.getElem?_replicate, if_pos (by omega)]; rfl
end Go.Proofs.YtjdnpkicdmapnaaGreatDoor
