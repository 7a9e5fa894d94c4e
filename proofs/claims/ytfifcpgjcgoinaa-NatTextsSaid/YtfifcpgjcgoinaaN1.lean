/- Contracts of functions of the program, out of walks. Their conditions stand ahead of each. -/
import Derived.Test.YtfifcpgjcgoinaaProg
import Derived.WalkKit
import Derived.WalkSpells
import Derived.WalkLawsBesides
import Derived.StillTactics
import Derived.StillTailTactics
import Derived.Laws.Pointers
import Derived.Deep.RegionHeld3
import Derived.Deep.QuietTactic
import Derived.BigQuiet
import Derived.RowKit3
import Derived.Lib.Hide
import Derived.Test.YtfifcpgjcgoinaaNm
import Derived.Test.YtfifcpgjcgoinaaNl2
import Derived.Test.YtfifcpgjcgoinaaK3
set_option linter.unusedVariables false
set_option linter.unusedSimpArgs false
namespace Go.Proofs.Ytfifcpgjcgoinaa
open Go.RowKit GW NL
theorem limb_any (A : Option Addr) (c : Nat) (l : List Nat) (i : Nat) (w : World) (h : SlW w A c l) (hi : i ≤ 1000000000000) :
    Calls Try.prog 76 #[.slice A l.length c, .int .i64 i] w fun e w' => e = .returned (.int .u32 ((l.getD i 0 : Nat) : Int)) ∧ w = w' := by
  have hm := h.len
  have hmm := h.max
  have hc := h.cap
  by_cases hlt : i < l.length
  · obtain ⟨b, o, rfl, hcell⟩ := limW_cell h.lim (by omega)
    have e1 := hcell i hlt
    clear hcell
    generalize l.getD i 0 = x at e1 ⊢
    generalize l.length = n at *
    go_enter Try.func76, Try.ntmps76
    go_wp2_with fail
    go_ret
    exact ⟨rfl, rfl⟩
  · have e1 : l.getD i 0 = 0 := by rw [List.getD_eq_getElem?_getD, List.getElem?_eq_none (by omega)]; rfl
    rw [e1]
    generalize l.length = n at *
    go_enter Try.func76, Try.ntmps76
    go_wp2_with fail
    go_ret
    exact ⟨rfl, rfl⟩
/-- the error of limbs -/
def chk (l : List Nat) : Int := if 256 < l.length then 4 else if 0 < l.length ∧ l.getD (l.length - 1) 0 = 0 then 3 else 0
theorem check_any (A : Option Addr) (c : Nat) (l : List Nat) (w : World) (h : SlW w A c l) :
    Calls Try.prog 43 #[.slice A l.length c] w fun e w' => e = .returned (.int .i64 (chk l)) ∧ Below w.heap.size w w' := by
  have hm := h.len
  have hmm := h.max
  have hc := h.cap
  unfold chk
  by_cases h1 : 256 < l.length
  · rw [if_pos h1]
    generalize l.length = n at *
    go_enter Try.func43, Try.ntmps43
    go_wp2_with fail
    go_ret
    exact ⟨rfl, Below.refl _ _⟩
  · rw [if_neg h1]
    by_cases h0 : 0 < l.length
    · obtain ⟨b, o, rfl, hcell⟩ := limW_cell h.lim (by omega)
      have e1 := hcell (l.length - 1) (by omega)
      clear hcell h
      generalize l.getD (l.length - 1) 0 = x at e1 ⊢
      generalize l.length = m at *
      have h0' : (0 : Int) < (m : Int) := by omega
      by_cases hx : x = 0
      · rw [if_pos ⟨by omega, hx⟩]
        have hx1 : (((x : Nat) : Int) == 0) = true := by simp [hx]
        clear hx
        generalize ((x : Nat) : Int) = v at *
        go_enter Try.func43, Try.ntmps43
        go_wp2_with fail
        go_ret
        exact ⟨rfl, Below.refl _ _⟩
      · rw [if_neg (by omega)]
        have hx1 : (((x : Nat) : Int) == 0) = false := by simp [hx]
        clear hx
        generalize ((x : Nat) : Int) = v at *
        go_enter Try.func43, Try.ntmps43
        go_wp2_with fail
        go_ret
        exact ⟨rfl, Below.refl _ _⟩
    · rw [if_neg (by omega)]
      have hl : l.length = 0 := by omega
      rw [hl]
      go_enter Try.func43, Try.ntmps43
      go_wp2_with fail
      go_ret
      exact ⟨rfl, Below.refl _ _⟩
theorem ret_slice {A : Option Addr} {n m c : Nat} (h : n = m) : Ending.returned (.slice A n c) = .returned (.slice A m c) := by rw [h]
/-- trim: the limbs without zeros at the end; the slice keeps its address -/
theorem trim_any (A : Option Addr) (c : Nat) (l : List Nat) (w : World) (h : SlW w A c l) :
    Calls Try.prog 56 #[.slice A l.length c] w fun e w' => e = .returned (.slice A (limbs (val l)).length c) ∧ Below w.heap.size w w' := by
  have hm := h.len
  have hmm := h.max
  have hc := h.cap
  have hk := h.ok
  go_enter Try.func56, Try.ntmps56
  go_wp2_with fail
  go_loopw [0] (fun v wr => ∃ k : Nat, k ≤ l.length ∧ v = .slice A k c ∧ val (l.take k) = val l ∧ Below w.heap.size w wr) (fun v _ => match v with | .slice _ k _ => k | _ => 0)
  case atStart => exact ⟨l.length, Nat.le_refl _, rfl, by rw [List.take_length], Below.refl _ _⟩
  case round =>
    obtain ⟨k, hk1, rfl, hv, hb⟩ := hrel
    have HV := Lib.hid hv
    clear hv
    by_cases h0 : 0 < k
    · obtain ⟨b, o, rfl, hcell⟩ := limW_cell h.lim (by omega)
      have e1 := (World.cell?_of_block (hb.block _ (World.block_lt_of_cell? w _ (hcell (k - 1) (by omega))))).trans (hcell (k - 1) (by omega))
      clear hcell h
      have hn : (limbs (val l)).length ≤ k := by
        rw [← HV.out]
        have := limbs_len_le_of_ok (hk.take k)
        rw [List.length_take] at this
        omega
      have h0' : (0 : Int) < (k : Int) := by omega
      by_cases hx : l.getD (k - 1) 0 = 0
      · have hv' : val (l.take (k - 1)) = val l := by
          rw [← HV.out]
          have := val_take_getD l (k - 1)
          rw [show k - 1 + 1 = k by omega, hx] at this
          omega
        have HV' := Lib.hid hv'
        clear hv'
        have hx1 : (((l.getD (k - 1) 0 : Nat) : Int) == 0) = true := by simp only [hx]; rfl
        clear hx
        generalize ((l.getD (k - 1) 0 : Nat) : Int) = v at *
        go_wp2_with fail
        refine ⟨⟨k - 1, by omega, ?_, HV'.out, hb⟩, ?_⟩
        · rfl
        · dsimp only; omega
      · have hn' : (limbs (val l)).length = k := by
          have hl : (l.take k).length = k := by rw [List.length_take]; omega
          have t : Trim (l.take k) := by
            intro j hj
            rw [hl] at hj
            rw [getD_take (by omega), show j = k - 1 by omega]
            exact hx
          rw [← HV.out, limbs_val (hk.take k) t, hl]
        have HN := Lib.hid hn'
        clear hn'
        have hx1 : (((l.getD (k - 1) 0 : Nat) : Int) == 0) = false := by simp only [beq_eq_false_iff_ne, ne_eq]; omega
        clear hx
        generalize ((l.getD (k - 1) 0 : Nat) : Int) = v at *
        go_wp2_with fail
        go_ret
        exact ⟨ret_slice HN.out.symm, hb⟩
    · obtain rfl : k = 0 := by omega
      have hn' : (limbs (val l)).length = 0 := by
        have := HV.out
        rw [List.take_zero] at this
        rw [← this]
        rw [show val [] = 0 from rfl, limbs_zero]; rfl
      have HN := Lib.hid hn'
      clear hn'
      go_wp2_with fail
      go_ret
      exact ⟨ret_slice HN.out.symm, hb⟩
theorem ret_tup2 {k k' : IntKind} {a a' b b' : Int} (h : a = a') (h' : b = b') : Ending.returned (.tuple #[.int k a, .int k' b]) = .returned (.tuple #[.int k a', .int k' b']) := by rw [h, h']
theorem ret_int {k : IntKind} {a a' : Int} (h : a = a') : Ending.returned (.int k a) = .returned (.int k a') := by rw [h]
theorem add32_any (x y c : Nat) (hx : x < 4294967296) (hy : y < 4294967296) (hc : c < 4294967296) (w : World) :
    Calls Try.prog 90 #[.int .u32 x, .int .u32 y, .int .u32 c] w fun e w' => e = .returned (.tuple #[.int .u32 (((x + y + c) % 4294967296 : Nat) : Int), .int .u32 (((x + y + c) / 4294967296 : Nat) : Int)]) ∧ w = w' := by
  go_enter Try.func90, Try.ntmps90
  go_wp2_with fail
  go_ret2
  exact ⟨ret_tup2 (by omega) (by omega), rfl⟩
theorem sub32_any (x y c : Nat) (hx : x < 4294967296) (hy : y < 4294967296) (hc : c ≤ 1) (w : World) :
    Calls Try.prog 94 #[.int .u32 x, .int .u32 y, .int .u32 c] w fun e w' => e = .returned (.tuple #[.int .u32 (((x + 4294967296 - y - c) % 4294967296 : Nat) : Int), .int .u32 (brw x y c : Nat)]) ∧ w = w' := by
  have HB := Lib.hid (K3.borrow32 x y c hx hy hc)
  go_enter Try.func94, Try.ntmps94
  go_wp2_with fail
  go_ret2
  exact ⟨ret_tup2 (by omega) (by unfold brw; exact HB.out), rfl⟩
/-- the block of a carry -/
def CB (w : World) (b c : Nat) : Prop := w.heap[b]? = some (.cells [Value.int .u32 (c : Int)].toArray 74 (0, 0))
theorem cb_of {w : World} {b c : Nat} {a : Int} (h : w.heap[b]? = some (.cells [Value.int .u32 a].toArray 74 (0, 0))) (e : a = (c : Int)) : CB w b c := by subst e; exact h
theorem cadd_any (b c x y : Nat) (hx : x < 4294967296) (hy : y < 4294967296) (hc : c < 4294967296) (w : World) (hb : CB w b c) :
    Calls Try.prog 79 #[.pointer (some ⟨b, 0, none⟩), .int .u32 x, .int .u32 y] w fun e w' => e = .returned (.int .u32 (((x + y + c) % 4294967296 : Nat) : Int)) ∧ Chg [b] w w' ∧ CB w' b ((x + y + c) / 4294967296) := by
  refine calls_m hb fun g => ?_
  have C := Lib.hid (fun w => add32_any x y c hx hy hc w)
  generalize (((x + y + c) % 4294967296 : Nat) : Int) = r1 at *
  have hg : ∃ n : Nat, (x + y + c) / 4294967296 = n := ⟨_, rfl⟩
  obtain ⟨r2, hr2⟩ := hg
  rw [hr2] at C ⊢
  clear hr2
  go_enter Try.func79, Try.ntmps79
  go_wp2_with ((go_at_call 90; refine (C.out _).mono ?_; rintro e w1 ⟨rfl, rfl⟩))
  go_ret
  exact ⟨rfl, G.chg _, G.blk0 _⟩
theorem csub_any (b c x y : Nat) (hx : x < 4294967296) (hy : y < 4294967296) (hc : c ≤ 1) (w : World) (hb : CB w b c) :
    Calls Try.prog 84 #[.pointer (some ⟨b, 0, none⟩), .int .u32 x, .int .u32 y] w fun e w' => e = .returned (.int .u32 (((x + 4294967296 - y - c) % 4294967296 : Nat) : Int)) ∧ Chg [b] w w' ∧ CB w' b (brw x y c) := by
  refine calls_m hb fun g => ?_
  have C := Lib.hid (fun w => sub32_any x y c hx hy hc w)
  generalize (((x + 4294967296 - y - c) % 4294967296 : Nat) : Int) = r1 at *
  generalize brw x y c = r2 at *
  go_enter Try.func84, Try.ntmps84
  go_wp2_with ((go_at_call 94; refine (C.out _).mono ?_; rintro e w1 ⟨rfl, rfl⟩))
  go_ret
  exact ⟨rfl, G.chg _, G.blk0 _⟩
theorem mul_bound (x y z c : Nat) (hx : x < 4294967296) (hy : y < 4294967296) (hz : z < 4294967296) (hc : c < 4294967296) : x * y + z + c < 18446744073709551616 ∧ x * y + z < 18446744073709551616 ∧ x * y < 18446744073709551616 := by
  have : x * y ≤ 4294967295 * 4294967295 := Nat.mul_le_mul (by omega) (by omega)
  omega
theorem cmul_any (b c x y z : Nat) (hx : x < 4294967296) (hy : y < 4294967296) (hz : z < 4294967296) (hc : c < 4294967296) (w : World) (hb : CB w b c) :
    Calls Try.prog 63 #[.pointer (some ⟨b, 0, none⟩), .int .u32 x, .int .u32 y, .int .u32 z] w fun e w' => e = .returned (.int .u32 (((x * y + z + c) % 4294967296 : Nat) : Int)) ∧ Chg [b] w w' ∧ CB w' b ((x * y + z + c) / 4294967296) := by
  refine calls_m hb fun g => ?_
  obtain ⟨m1, m2, m3⟩ := mul_bound x y z c hx hy hz hc
  have e0 : ((x * y : Nat) : Int) = (x : Int) * (y : Int) := by rw [Int.natCast_mul]
  obtain ⟨p, hp⟩ : ∃ p : Nat, x * y = p := ⟨_, rfl⟩
  rw [hp] at m1 m2 m3 e0 ⊢
  have e1 : IntKind.u64.wrap ((x : Int) * (y : Int)) = (p : Int) := by rw [← e0, IntKind.wrap_u64]; omega
  have E0 := Lib.hid e0
  clear e0 hp
  go_enter Try.func63, Try.ntmps63
  go_wp2_with fail
  go_ret
  exact ⟨ret_int (by omega), G.chg _, cb_of (G.blk0 _) (by omega)⟩
end Go.Proofs.Ytfifcpgjcgoinaa
