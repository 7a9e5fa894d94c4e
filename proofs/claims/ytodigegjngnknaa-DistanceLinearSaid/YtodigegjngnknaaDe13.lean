/- Plain facts and contracts of functions of the program, out of walks. Their conditions stand ahead of each. -/
import Derived.Test.YtodigegjngnknaaDe1
import Derived.Test.YtodigegjngnknaaDe2
import Derived.Test.YtodigegjngnknaaDe6
import Derived.Below
import Derived.BigQuiet
import Derived.Deep.Draws
import Derived.Deep.QuietTactic
import Derived.Deep.RegionHeld3
import Derived.Laws.NewBlocks
import Derived.Laws.OwnMore
import Derived.Laws.Pointers
import Derived.Laws.Rows
import Derived.Lib.Hide
import Derived.RowKit3
import Derived.StillTactics
import Derived.StillTailTactics
import Derived.Test.YtodigegjngnknaaProg
import Derived.WalkKit
import Derived.WalkLawsBesides
import Derived.WalkSpells
set_option linter.unusedVariables false
set_option linter.unusedSimpArgs false
namespace Go.Proofs.Ytodigegjngnknaa
open Go.RowKit GW NL
theorem limb_any (A : Option Addr) (c : Nat) (l : List Nat) (i : Nat) (w : World) (h : SlW w A c l) (hi : i ≤ 1000000000000) :
    Calls Try.prog 83 #[.slice A l.length c, .int .i64 i] w fun e w' => e = .returned (.int .u32 ((l.getD i 0 : Nat) : Int)) ∧ w = w' := by
  have hm := h.len
  have hmm := h.max
  have hc := h.cap
  by_cases hlt : i < l.length
  · obtain ⟨b, o, rfl, hcell⟩ := limW_cell h.lim (by omega)
    have e1 := hcell i hlt
    clear hcell
    generalize l.getD i 0 = x at e1 ⊢
    generalize l.length = n at *
    go_enter Try.func83, Try.ntmps83
    go_wp2_with fail
    go_ret
    exact ⟨rfl, rfl⟩
  · have e1 : l.getD i 0 = 0 := by rw [List.getD_eq_getElem?_getD, List.getElem?_eq_none (by omega)]; rfl
    rw [e1]
    generalize l.length = n at *
    go_enter Try.func83, Try.ntmps83
    go_wp2_with fail
    go_ret
    exact ⟨rfl, rfl⟩
/-- the error of limbs -/
def chk (l : List Nat) : Int := if 256 < l.length then 4 else if 0 < l.length ∧ l.getD (l.length - 1) 0 = 0 then 3 else 0
theorem check_any (A : Option Addr) (c : Nat) (l : List Nat) (w : World) (h : SlW w A c l) :
    Calls Try.prog 76 #[.slice A l.length c] w fun e w' => e = .returned (.int .i64 (chk l)) ∧ Below w.heap.size w w' := by
  have hm := h.len
  have hmm := h.max
  have hc := h.cap
  unfold chk
  by_cases h1 : 256 < l.length
  · rw [if_pos h1]
    generalize l.length = n at *
    go_enter Try.func76, Try.ntmps76
    go_wp2_with fail
    go_ret
    exact ⟨rfl, Below.refl _ _⟩
  · rw [if_neg h1]
    by_cases h0 : 0 < l.length
    · obtain ⟨b, o, rfl, hcell⟩ := limW_cell h.lim (by omega)
      have e1 := hcell (l.length - 1) (by omega)
      clear hcell h
      generalize l.getD (l.length - 1) 0 = x at e1 ⊢
      generalize l.length = m at *
      have h0' : (0 : Int) < (m : Int) := by omega
      by_cases hx : x = 0
      · rw [if_pos ⟨by omega, hx⟩]
        have hx1 : (((x : Nat) : Int) == 0) = true := by simp [hx]
        clear hx
        generalize ((x : Nat) : Int) = v at *
        go_enter Try.func76, Try.ntmps76
        go_wp2_with fail
        go_ret
        exact ⟨rfl, Below.refl _ _⟩
      · rw [if_neg (by omega)]
        have hx1 : (((x : Nat) : Int) == 0) = false := by simp [hx]
        clear hx
        generalize ((x : Nat) : Int) = v at *
        go_enter Try.func76, Try.ntmps76
        go_wp2_with fail
        go_ret
        exact ⟨rfl, Below.refl _ _⟩
    · rw [if_neg (by omega)]
      have hl : l.length = 0 := by omega
      rw [hl]
      go_enter Try.func76, Try.ntmps76
      go_wp2_with fail
      go_ret
      exact ⟨rfl, Below.refl _ _⟩
theorem ret_slice {A : Option Addr} {n m c : Nat} (h : n = m) : Ending.returned (.slice A n c) = .returned (.slice A m c) := by rw [h]
/-- trim: the limbs without zeros at the end; the slice keeps its address -/
theorem trim_any (A : Option Addr) (c : Nat) (l : List Nat) (w : World) (h : SlW w A c l) :
    Calls Try.prog 80 #[.slice A l.length c] w fun e w' => e = .returned (.slice A (limbs (val l)).length c) ∧ Below w.heap.size w w' := by
  have hm := h.len
  have hmm := h.max
  have hc := h.cap
  have hk := h.ok
  go_enter Try.func80, Try.ntmps80
  go_wp2_with fail
  go_loopw [0] (fun v wr => ∃ k : Nat, k ≤ l.length ∧ v = .slice A k c ∧ val (l.take k) = val l ∧ Below w.heap.size w wr) (fun v _ => match v with | .slice _ k _ => k | _ => 0)
  case atStart => exact ⟨l.length, Nat.le_refl _, rfl, by rw [List.take_length], Below.refl _ _⟩
  case round =>
    obtain ⟨k, hk1, rfl, hv, hb⟩ := hrel
    have HV := Lib.hid hv
    clear hv
    by_cases h0 : 0 < k
    · obtain ⟨b, o, rfl, hcell⟩ := limW_cell h.lim (by omega)
      have e1 := (World.cell?_of_block (hb.block _ (World.block_lt_of_cell? w _ (hcell (k - 1) (by omega))))).trans (hcell (k - 1) (by omega))
      clear hcell h
      have hn : (limbs (val l)).length ≤ k := by
        rw [← HV.out]
        have := limbs_len_le_of_ok (hk.take k)
        rw [List.length_take] at this
        omega
      have h0' : (0 : Int) < (k : Int) := by omega
      by_cases hx : l.getD (k - 1) 0 = 0
      · have hv' : val (l.take (k - 1)) = val l := by
          rw [← HV.out]
          have := val_take_getD l (k - 1)
          rw [show k - 1 + 1 = k by omega, hx] at this
          omega
        have HV' := Lib.hid hv'
        clear hv'
        have hx1 : (((l.getD (k - 1) 0 : Nat) : Int) == 0) = true := by simp only [hx]; rfl
        clear hx
        generalize ((l.getD (k - 1) 0 : Nat) : Int) = v at *
        go_wp2_with fail
        refine ⟨⟨k - 1, by omega, ?_, HV'.out, hb⟩, ?_⟩
        · rfl
        · dsimp only; omega
      · have hn' : (limbs (val l)).length = k := by
          have hl : (l.take k).length = k := by rw [List.length_take]; omega
          have t : Trim (l.take k) := by
            intro j hj
            rw [hl] at hj
            rw [getD_take (by omega), show j = k - 1 by omega]
            exact hx
          rw [← HV.out, limbs_val (hk.take k) t, hl]
        have HN := Lib.hid hn'
        clear hn'
        have hx1 : (((l.getD (k - 1) 0 : Nat) : Int) == 0) = false := by simp only [beq_eq_false_iff_ne, ne_eq]; omega
        clear hx
        generalize ((l.getD (k - 1) 0 : Nat) : Int) = v at *
        go_wp2_with fail
        go_ret
        exact ⟨ret_slice HN.out.symm, hb⟩
    · obtain rfl : k = 0 := by omega
      have hn' : (limbs (val l)).length = 0 := by
        have := HV.out
        rw [List.take_zero] at this
        rw [← this]
        rw [show val [] = 0 from rfl, limbs_zero]; rfl
      have HN := Lib.hid hn'
      clear hn'
      go_wp2_with fail
      go_ret
      exact ⟨ret_slice HN.out.symm, hb⟩
theorem ret_tup2 {k k' : IntKind} {a a' b b' : Int} (h : a = a') (h' : b = b') : Ending.returned (.tuple #[.int k a, .int k' b]) = .returned (.tuple #[.int k a', .int k' b']) := by rw [h, h']
theorem ret_int {k : IntKind} {a a' : Int} (h : a = a') : Ending.returned (.int k a) = .returned (.int k a') := by rw [h]
theorem add32_any (x y c : Nat) (hx : x < 4294967296) (hy : y < 4294967296) (hc : c < 4294967296) (w : World) :
    Calls Try.prog 116 #[.int .u32 x, .int .u32 y, .int .u32 c] w fun e w' => e = .returned (.tuple #[.int .u32 (((x + y + c) % 4294967296 : Nat) : Int), .int .u32 (((x + y + c) / 4294967296 : Nat) : Int)]) ∧ w = w' := by
  go_enter Try.func116, Try.ntmps116
  go_wp2_with fail
  go_ret2
  exact ⟨ret_tup2 (by omega) (by omega), rfl⟩
theorem sub32_any (x y c : Nat) (hx : x < 4294967296) (hy : y < 4294967296) (hc : c ≤ 1) (w : World) :
    Calls Try.prog 121 #[.int .u32 x, .int .u32 y, .int .u32 c] w fun e w' => e = .returned (.tuple #[.int .u32 (((x + 4294967296 - y - c) % 4294967296 : Nat) : Int), .int .u32 (brw x y c : Nat)]) ∧ w = w' := by
  have HB := Lib.hid (K3.borrow32 x y c hx hy hc)
  go_enter Try.func121, Try.ntmps121
  go_wp2_with fail
  go_ret2
  exact ⟨ret_tup2 (by omega) (by unfold brw; exact HB.out), rfl⟩
/-- the block of a carry -/
def CB (w : World) (b c : Nat) : Prop := w.heap[b]? = some (.cells [Value.int .u32 (c : Int)].toArray 116 (0, 0))
theorem cb_of {w : World} {b c : Nat} {a : Int} (h : w.heap[b]? = some (.cells [Value.int .u32 a].toArray 116 (0, 0))) (e : a = (c : Int)) : CB w b c := by subst e; exact h
theorem cadd_any (b c x y : Nat) (hx : x < 4294967296) (hy : y < 4294967296) (hc : c < 4294967296) (w : World) (hb : CB w b c) :
    Calls Try.prog 102 #[.pointer (some ⟨b, 0, none⟩), .int .u32 x, .int .u32 y] w fun e w' => e = .returned (.int .u32 (((x + y + c) % 4294967296 : Nat) : Int)) ∧ Chg [b] w w' ∧ CB w' b ((x + y + c) / 4294967296) := by
  refine calls_m hb fun g => ?_
  have C := Lib.hid (fun w => add32_any x y c hx hy hc w)
  generalize (((x + y + c) % 4294967296 : Nat) : Int) = r1 at *
  have hg : ∃ n : Nat, (x + y + c) / 4294967296 = n := ⟨_, rfl⟩
  obtain ⟨r2, hr2⟩ := hg
  rw [hr2] at C ⊢
  clear hr2
  go_enter Try.func102, Try.ntmps102
  go_wp2_with ((go_at_call 116; refine (C.out _).mono ?_; rintro e w1 ⟨rfl, rfl⟩))
  go_ret
  exact ⟨rfl, G.chg _, G.blk0 _⟩
theorem csub_any (b c x y : Nat) (hx : x < 4294967296) (hy : y < 4294967296) (hc : c ≤ 1) (w : World) (hb : CB w b c) :
    Calls Try.prog 120 #[.pointer (some ⟨b, 0, none⟩), .int .u32 x, .int .u32 y] w fun e w' => e = .returned (.int .u32 (((x + 4294967296 - y - c) % 4294967296 : Nat) : Int)) ∧ Chg [b] w w' ∧ CB w' b (brw x y c) := by
  refine calls_m hb fun g => ?_
  have C := Lib.hid (fun w => sub32_any x y c hx hy hc w)
  generalize (((x + 4294967296 - y - c) % 4294967296 : Nat) : Int) = r1 at *
  generalize brw x y c = r2 at *
  go_enter Try.func120, Try.ntmps120
  go_wp2_with ((go_at_call 121; refine (C.out _).mono ?_; rintro e w1 ⟨rfl, rfl⟩))
  go_ret
  exact ⟨rfl, G.chg _, G.blk0 _⟩
theorem mul_bound (x y z c : Nat) (hx : x < 4294967296) (hy : y < 4294967296) (hz : z < 4294967296) (hc : c < 4294967296) : x * y + z + c < 18446744073709551616 ∧ x * y + z < 18446744073709551616 ∧ x * y < 18446744073709551616 := by
  have : x * y ≤ 4294967295 * 4294967295 := Nat.mul_le_mul (by omega) (by omega)
  omega
theorem cmul_any (b c x y z : Nat) (hx : x < 4294967296) (hy : y < 4294967296) (hz : z < 4294967296) (hc : c < 4294967296) (w : World) (hb : CB w b c) :
    Calls Try.prog 103 #[.pointer (some ⟨b, 0, none⟩), .int .u32 x, .int .u32 y, .int .u32 z] w fun e w' => e = .returned (.int .u32 (((x * y + z + c) % 4294967296 : Nat) : Int)) ∧ Chg [b] w w' ∧ CB w' b ((x * y + z + c) / 4294967296) := by
  refine calls_m hb fun g => ?_
  obtain ⟨m1, m2, m3⟩ := mul_bound x y z c hx hy hz hc
  have e0 : ((x * y : Nat) : Int) = (x : Int) * (y : Int) := by rw [Int.natCast_mul]
  obtain ⟨p, hp⟩ : ∃ p : Nat, x * y = p := ⟨_, rfl⟩
  rw [hp] at m1 m2 m3 e0 ⊢
  have e1 : IntKind.u64.wrap ((x : Int) * (y : Int)) = (p : Int) := by rw [← e0, IntKind.wrap_u64]; omega
  have E0 := Lib.hid e0
  clear e0 hp
  go_enter Try.func103, Try.ntmps103
  go_wp2_with fail
  go_ret
  exact ⟨ret_int (by omega), G.chg _, cb_of (G.blk0 _) (by omega)⟩
end Go.Proofs.Ytodigegjngnknaa
namespace Go.Proofs.Ytodigegjngnknaa
open Go.RowKit GW NL
theorem infoU32 : (Try.prog.info? 82).map (fun i => (i.zero, i.size, i.bytes)) = some (some (.int .u32 0), 1, 4) := by kernel_rfl
theorem madeU32 (n : Nat) : madeCells (Value.int .u32 0).cells (n * 1) = (u32s (List.replicate n 0)).toArray := by
  rw [u32s_zeros, Nat.mul_one]
  apply Array.toList_inj.1
  exact (toList_madeCells_one _ _).trans (by simp)
theorem make_nat (n : Nat) (hn : n ≤ 35184372088832) (w : World) : (Instr.makeSlice 65 (.int .i64 (n : Int)) (.int .i64 (n : Int))).run Try.prog w = .ok (.slice (some ⟨w.heap.size, 0, none⟩) n n) (w.alloc (.cells (u32s (List.replicate n 0)).toArray 82)) := by
  obtain ⟨i0, hi, hz0, hz1, hz2⟩ := info_parts infoU32
  have h := run_make (P := Try.prog) w 65 82 i0 _ Try.underlying65 hi hz0 .i64 .i64 n n (by omega) (by omega) (by rw [hz2]; omega) (by omega)
  rw [hz1] at h
  simp only [Int.toNat_natCast] at h
  rw [h, madeU32]
theorem u32s_zero_at {pre : List Nat} {k n : Nat} (hp : pre.length = k) (hk : k < n) : (u32s (pre ++ List.replicate (n - k) 0))[k]? = some (.int .u32 0) := by
  rw [u32s_get, List.getElem?_append_right (by omega), hp, Nat.sub_self, List.getElem?_replicate, if_pos (by omega)]; rfl
set_option maxRecDepth 20000 in
theorem add_any (A1 A2 : Option Addr) (c1 c2 : Nat) (l1 l2 : List Nat) (w : World) (h1 : SlW w A1 c1 l1) (h2 : SlW w A2 c2 l2) (hl1 : l1.length ≤ 1000000000) (hl2 : l2.length ≤ 1000000000) :
    Calls Try.prog 75 #[.slice A1 l1.length c1, .slice A2 l2.length c2] w (RNat (val l1 + val l2) w) := by
  refine calls_b fun g => ?_
  obtain ⟨n, hn⟩ : ∃ n : Nat, max l1.length l2.length + 1 = n := ⟨_, rfl⟩
  have hn1 : l1.length < n := by omega
  have hn2 : l2.length < n := by omega
  have hn3 : n ≤ 1000000001 := by omega
  have hmk : ∀ m : Nat, m + 1 = n → ∀ w, (Instr.makeSlice 65 (.int .i64 ((m : Int) + 1)) (.int .i64 ((m : Int) + 1))).run Try.prog w = .ok (.slice (some ⟨w.heap.size, 0, none⟩) n n) (w.alloc (.cells (u32s (List.replicate n 0)).toArray 82)) := by
    intro m hm w
    have := make_nat n (by omega) w
    rw [← hm] at this ⊢
    exact this
  have hmk' : l1.length < l2.length ∨ ¬ l1.length < l2.length := by omega
  rcases hmk' with hlt | hlt
  all_goals
    first | have hmk := hmk l2.length (by omega) | have hmk := hmk l1.length (by omega)
    clear hn
    go_enter Try.func75, Try.ntmps75
    go_wp2_with (with_reducible refine G.any_mark _ ?_; (try generalize Array.size (World.heap (G.w _)) = bk); (try dsimp only [List.set_cons_zero, List.set_cons_succ]); (try clear g); intro g)
    rename_i kb _ _
    go_loopw [19] (fun i wr => ∃ (k c : Nat) (pre : List Nat), i = .int .i64 k ∧ k ≤ n ∧ pre.length = k ∧ Ok pre ∧ c ≤ 1 ∧ val pre + 4294967296 ^ k * c = val (l1.take k) + val (l2.take k) ∧ ∃ g : G w [] [(bk, 82, u32s (pre ++ List.replicate (n - k) 0)), (kb, 116, [.int .u32 (c : Int)])] [heapOf w], wr = g.w) (fun i _ => n - (intOf i).toNat)
    case atStart => exact ⟨0, 0, [], rfl, Nat.zero_le _, rfl, Ok.nil, by omega, by simp [val], g, rfl⟩
    case round =>
      clear g hmk
      obtain ⟨k, c, pre, rfl, hk, hp, hok, hc, hv, g, rfl⟩ := hrel
      have HP := Lib.hid hp
      have HV := Lib.hid hv
      clear hp hv
      by_cases hk2 : k < n
      · go_wp2_with (with_reducible refine G.any_mark _ ?_; (try generalize Array.size (World.heap (G.w _)) = bk); (try dsimp only [List.set_cons_zero, List.set_cons_succ]); (try clear g); intro g)
        refine (limb_any _ _ l1 k _ (g.sl (by simp) h1) (by omega)).mono ?_; rintro e w1 ⟨rfl, rfl⟩
        go_wp2_with (with_reducible refine G.any_mark _ ?_; (try generalize Array.size (World.heap (G.w _)) = bk); (try dsimp only [List.set_cons_zero, List.set_cons_succ]); (try clear g); intro g)
        refine (limb_any _ _ l2 k _ (g.sl (by simp) h2) (by omega)).mono ?_; rintro e w1 ⟨rfl, rfl⟩
        go_wp2_with (with_reducible refine G.any_mark _ ?_; (try generalize Array.size (World.heap (G.w _)) = bk); (try dsimp only [List.set_cons_zero, List.set_cons_succ]); (try clear g); intro g)
        have hx := h1.ok.getD k
        have hy := h2.ok.getD k
        have hpl := u32s_zero_at HP.out hk2
        have st := Lib.hid (add_step (l1 := l1) (l2 := l2) (c := c) HP.out HV.out)
        have hq := Lib.hid (set_zeros' HP.out hk2 ((l1.getD k 0 + l2.getD k 0 + c) % 4294967296))
        have hc2 : (l1.getD k 0 + l2.getD k 0 + c) / 4294967296 ≤ 1 := by omega
        refine (cadd_any kb c (l1.getD k 0) (l2.getD k 0) hx hy (by omega) _ g.blk1).mono ?_
        rintro e w1 ⟨rfl, hch, hcb⟩
        obtain ⟨g1, rfl⟩ := g.mut1 (cs' := [.int .u32 (((l1.getD k 0 + l2.getD k 0 + c) / 4294967296 : Nat) : Int)]) hch hcb
        clear g hch hcb
        revert g1
        intro g
        have hr : (l1.getD k 0 + l2.getD k 0 + c) % 4294967296 < 4294967296 := by omega
        generalize (l1.getD k 0 + l2.getD k 0 + c) % 4294967296 = r at *
        generalize (l1.getD k 0 + l2.getD k 0 + c) / 4294967296 = c2 at *
        go_wp2_with (with_reducible refine G.any_mark _ ?_; (try generalize Array.size (World.heap (G.w _)) = bk); (try dsimp only [List.set_cons_zero, List.set_cons_succ]); (try clear g); intro g)
        obtain ⟨g2, hg2⟩ := g.as (by rw [u32s_set, hq.out])
        exact ⟨⟨k + 1, c2, pre ++ [r], by go_num, by omega, by rw [List.length_append, HP.out]; rfl, hok.append (Ok.cons hr Ok.nil), hc2, st.out, g2, hg2⟩, by simp [intOf]; omega⟩
      · obtain rfl : k = n := by omega
        obtain ⟨e1, rfl⟩ := add_end h1.ok h2.ok hn1 hn2 HV.out
        obtain ⟨g2, hg2⟩ := g.as (M' := [(bk, 82, u32s pre), (kb, 116, [.int .u32 ((0 : Nat) : Int)])]) (by rw [Nat.sub_self, List.replicate_zero, List.append_nil])
        rw [hg2]
        clear hg2 g
        revert g2
        intro g
        have E1 := Lib.hid e1
        clear e1
        have hp := HP.out
        subst hp
        have hsl : SlW g.w (some ⟨bk, 0, none⟩) pre.length pre := (sl_blk (Nat.le_refl _) (by omega) hok).at (blkF_sub g.blk0)
        go_wp2_with (with_reducible refine G.any_mark _ ?_; (try generalize Array.size (World.heap (G.w _)) = bk); (try dsimp only [List.set_cons_zero, List.set_cons_succ]); (try clear g); intro g)
        refine (trim_any _ _ pre _ hsl).mono ?_
        rintro e w1 ⟨rfl, hb⟩
        obtain ⟨g1, rfl⟩ := G.call_ex _ hb
        clear hb hsl g
        revert g1
        intro g
        go_wp2_with (with_reducible refine G.any_mark _ ?_; (try generalize Array.size (World.heap (G.w _)) = bk); (try dsimp only [List.set_cons_zero, List.set_cons_succ]); (try clear g); intro g)
        go_ret
        exact rnat_end g (List.mem_cons_self ..) hok (Nat.le_refl _) (by omega) E1.out
end Go.Proofs.Ytodigegjngnknaa
namespace Go.Proofs.Ytodigegjngnknaa
open Go.RowKit GW NL
set_option maxRecDepth 20000 in
set_option maxHeartbeats 1000000 in
theorem mul_any (A1 A2 : Option Addr) (c1 c2 : Nat) (l1 l2 : List Nat) (w : World) (h1 : SlW w A1 c1 l1) (h2 : SlW w A2 c2 l2) (hl1 : l1.length ≤ 1000000000) (hl2 : l2.length ≤ 1000000000) :
    Calls Try.prog 78 #[.slice A1 l1.length c1, .slice A2 l2.length c2] w (RNat (val l1 * val l2) w) := by
  refine calls_b fun g => ?_
  obtain ⟨n1, hn1⟩ : ∃ n : Nat, l1.length = n := ⟨_, rfl⟩
  obtain ⟨n2, hn2⟩ : ∃ n : Nat, l2.length = n := ⟨_, rfl⟩
  obtain ⟨n, hn⟩ : ∃ n : Nat, n1 + n2 = n := ⟨_, rfl⟩
  have hmk : ∀ w, (Instr.makeSlice 65 (.int .i64 ((n1 : Int) + (n2 : Int))) (.int .i64 ((n1 : Int) + (n2 : Int)))).run Try.prog w = .ok (.slice (some ⟨w.heap.size, 0, none⟩) n n) (w.alloc (.cells (u32s (List.replicate n 0)).toArray 82)) := by
    intro w
    have := make_nat n (by omega) w
    rw [← hn] at this ⊢
    exact this
  rw [hn1, hn2]
  have HN1 := Lib.hid hn1
  have HN2 := Lib.hid hn2
  have HN := Lib.hid hn
  have ha1 : l1.length ≤ n1 := by omega
  have ha2 : n1 ≤ l1.length := by omega
  have ha3 : l2.length ≤ n2 := by omega
  have ha4 : n2 ≤ l2.length := by omega
  have ha5 : n ≤ n1 + n2 := by omega
  have ha6 : n1 + n2 ≤ n := by omega
  clear hn1 hn2 hn
  go_enter Try.func78, Try.ntmps78
  go_wp2_with (with_reducible refine G.any_mark _ ?_; (try generalize Array.size (World.heap (G.w _)) = bk); (try dsimp only [List.set_cons_zero, List.set_cons_succ]); (try clear g); intro g)
  go_loopw [19] (fun i wr => ∃ (k : Nat) (out : List Nat), i = .int .i64 k ∧ k ≤ n1 ∧ n ≤ out.length ∧ out.length ≤ n ∧ Ok out ∧ (∀ j, k + n2 ≤ j → out.getD j 0 = 0) ∧ val out = val (l1.take k) * val l2 ∧ ∃ g : G w [] [(bk, 82, u32s out)] [heapOf w], wr = g.w) (fun i _ => n1 - (intOf i).toNat)
  case atStart => exact ⟨0, List.replicate n 0, rfl, Nat.zero_le _, by simp, by simp, Ok.zeros _, fun j _ => by simp [List.getElem?_replicate]; split <;> rfl, by rw [val_zeros]; simp [val], g, rfl⟩
  case round =>
    clear g hmk
    obtain ⟨ob, rfl⟩ : ∃ ob : Nat, ob = bk := ⟨_, rfl⟩
    obtain ⟨k, out, rfl, hk, hp1, hp2, hok, hz, hv, g, rfl⟩ := hrel
    have HV := Lib.hid hv
    have HZ := Lib.hid hz
    clear hv hz
    by_cases hk2 : k < n1
    · obtain ⟨b, o, rfl, hcell⟩ := lim_cells h1.lim (by omega)
      have e0 := hcell k (by omega) _ _ _ _ g (by simp)
      clear hcell
      have hx := h1.ok.getD k
      obtain ⟨x, hxe⟩ : ∃ x, l1.getD k 0 = x := ⟨_, rfl⟩
      rw [hxe] at e0 hx
      have HX := Lib.hid hxe
      clear hxe
      go_wp2_with (with_reducible refine G.any_mark _ ?_; (try generalize Array.size (World.heap (G.w _)) = bk); (try dsimp only [List.set_cons_zero, List.set_cons_succ]); (try clear g); intro g)
      go_loopw [28] (fun i wr => ∃ (j c : Nat) (out : List Nat), i = .int .i64 j ∧ j ≤ n2 ∧ n ≤ out.length ∧ out.length ≤ n ∧ Ok out ∧ c < 4294967296 ∧ (∀ i, k + n2 ≤ i → out.getD i 0 = 0) ∧ val out + 4294967296 ^ (k + j) * c = val (l1.take k) * val l2 + 4294967296 ^ k * (x * val (l2.take j)) ∧ ∃ g : G w [] [(bk, 116, [.int .u32 (c : Int)]), (ob, 82, u32s out)] [heapOf w], wr = g.w) (fun i _ => n2 - (intOf i).toNat)
      case atStart => exact ⟨0, 0, out, rfl, Nat.zero_le _, hp1, hp2, hok, by omega, HZ.out, by rw [List.take_zero]; simp [val]; exact HV.out, g, rfl⟩
      case round =>
        clear g e0
        obtain ⟨kb, rfl⟩ : ∃ kb : Nat, kb = bk := ⟨_, rfl⟩
        clear HV HZ hok hp1 hp2
        clear g
        obtain ⟨j, c, out, rfl, hj, hp1, hp2, hok, hc, hz, hv, g, rfl⟩ := hrel
        have HV := Lib.hid hv
        have HZ := Lib.hid hz
        clear hv hz
        by_cases hj2 : j < n2
        · obtain ⟨b2, o2, rfl, hcell⟩ := lim_cells h2.lim (by omega)
          have e1 := hcell j (by omega) _ _ _ _ g (by simp)
          clear hcell
          have hy := h2.ok.getD j
          have hkj : k + j < out.length := by omega
          have e2 := u32s_getD hkj
          have hzz := hok.getD (k + j)
          have st := Lib.hid (mul_step (l2 := l2) hkj HV.out)
          have hs := Lib.hid (u32s_set out (k + j) ((x * l2.getD j 0 + out.getD (k + j) 0 + c) % 4294967296))
          have hc2 := mul_carry hx hy hzz hc
          have hr : (x * l2.getD j 0 + out.getD (k + j) 0 + c) % 4294967296 < 4294967296 := by omega
          have CM := Lib.hid (fun w => cmul_any kb c x (l2.getD j 0) (out.getD (k + j) 0) hx hy hzz hc w)
          have HZ2 : Hid (∀ i, k + n2 ≤ i → (out.set (k + j) ((x * l2.getD j 0 + out.getD (k + j) 0 + c) % 4294967296)).getD i 0 = 0) := Lib.hid (fun i hi => by rw [NL.getD_set_ne (by omega)]; exact HZ.out i hi)
          have hok2 := hok.set (k + j) hr
          have hlen : (out.set (k + j) ((x * l2.getD j 0 + out.getD (k + j) 0 + c) % 4294967296)).length = out.length := List.length_set ..
          generalize (x * l2.getD j 0 + out.getD (k + j) 0 + c) % 4294967296 = r at *
          generalize (x * l2.getD j 0 + out.getD (k + j) 0 + c) / 4294967296 = c2 at *
          generalize out.getD (k + j) 0 = z at *
          generalize l2.getD j 0 = y at *
          have hl1 := Nat.le_of_eq hlen
          have hl2 := Nat.le_of_eq hlen.symm
          clear hlen HZ HV
          go_wp2_with (with_reducible refine G.any_mark _ ?_; (try generalize Array.size (World.heap (G.w _)) = bk); (try dsimp only [List.set_cons_zero, List.set_cons_succ]); (try clear g); intro g)
          refine (CM.out _ (G.blk0 _)).mono ?_
          rintro e w1 ⟨rfl, hch, hcb⟩
          obtain ⟨g1, rfl⟩ := G.mut0 _ (cs' := [.int .u32 ((c2 : Nat) : Int)]) hch hcb
          clear hch hcb
          (try clear e1)
          (try clear g)
          revert g1
          intro g
          go_wp2_with (with_reducible refine G.any_mark _ ?_; (try generalize Array.size (World.heap (G.w _)) = bk); (try dsimp only [List.set_cons_zero, List.set_cons_succ]); (try clear g); intro g)
          obtain ⟨g2, hg2⟩ := g.as (by rw [hs.out])
          exact ⟨⟨j + 1, c2, out.set (k + j) r, by go_num, by omega, by omega, by omega, hok2, hc2, HZ2.out, st.out, g2, hg2⟩, by simp [intOf]; omega⟩
        · obtain rfl : j = n2 := by omega
          have hn2 : l2.length = j := by omega
          have hkl : k + l2.length < out.length := by omega
          have hkl' : k + j < out.length := by omega
          have hz0 := HZ.out (k + j) (Nat.le_refl _)
          have e2 := u32s_getD hkl'
          have rd := Lib.hid (mul_round (l1 := l1) (c := c) hkl (by rw [hn2]; exact hz0) (by rw [HX.out, hn2]; exact HV.out))
          have hs := Lib.hid (u32s_set out (k + j) c)
          have hok2 := hok.set (k + j) hc
          have HZ2 : Hid (∀ i, k + 1 + j ≤ i → (out.set (k + j) c).getD i 0 = 0) := Lib.hid (fun i hi => by rw [NL.getD_set_ne (by omega)]; exact HZ.out i (by omega))
          rw [hn2] at rd
          have hlen : (out.set (k + j) c).length = out.length := List.length_set ..
          have hl1 := Nat.le_of_eq hlen
          have hl2 := Nat.le_of_eq hlen.symm
          clear hlen hn2 hz0 HZ HV
          generalize out.getD (k + j) 0 = z at *
          go_wp2_with (with_reducible refine G.any_mark _ ?_; (try generalize Array.size (World.heap (G.w _)) = bk); (try dsimp only [List.set_cons_zero, List.set_cons_succ]); (try clear g); intro g)
          obtain ⟨g2, hg2⟩ := g.as (by rw [hs.out])
          obtain ⟨g3, hg3⟩ := g2.less (M' := [(ob, 82, u32s (out.set (k + j) c))]) (by simp)
          exact ⟨⟨k + 1, out.set (k + j) c, by go_num, by omega, by omega, by omega, hok2, HZ2.out, rd.out, g3, hg2.trans hg3⟩, by simp [intOf]; omega⟩
    · obtain rfl : k = n1 := by omega
      have hn1 : l1.length ≤ k := by omega
      have e1 := HV.out
      rw [val_take_all hn1] at e1
      have E1 := Lib.hid e1
      obtain rfl : n = out.length := by omega
      clear e1 hn1
      have hsl : SlW g.w (some ⟨ob, 0, none⟩) out.length out := (sl_blk (Nat.le_refl _) (by omega) hok).at (blkF_sub g.blk0)
      clear HN
      go_wp2_with (with_reducible refine G.any_mark _ ?_; (try generalize Array.size (World.heap (G.w _)) = bk); (try dsimp only [List.set_cons_zero, List.set_cons_succ]); (try clear g); intro g)
      refine (trim_any _ _ out _ hsl).mono ?_
      rintro e w1 ⟨rfl, hb⟩
      obtain ⟨g1, rfl⟩ := G.call_ex _ hb
      clear hb hsl g
      revert g1
      intro g
      go_wp2_with (with_reducible refine G.any_mark _ ?_; (try generalize Array.size (World.heap (G.w _)) = bk); (try dsimp only [List.set_cons_zero, List.set_cons_succ]); (try clear g); intro g)
      go_ret
      exact rnat_end g (List.mem_cons_self ..) hok (Nat.le_refl _) (by omega) E1.out
end Go.Proofs.Ytodigegjngnknaa
