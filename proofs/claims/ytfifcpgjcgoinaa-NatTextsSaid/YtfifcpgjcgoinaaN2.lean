/- Contracts of functions of the program, out of walks. Their conditions stand ahead of each. -/
import Derived.Test.YtfifcpgjcgoinaaN1
set_option linter.unusedVariables false
set_option linter.unusedSimpArgs false
namespace Go.Proofs.Ytfifcpgjcgoinaa
open Go.RowKit GW NL
theorem infoU32 : (Try.prog.info? 30).map (fun i => (i.zero, i.size, i.bytes)) = some (some (.int .u32 0), 1, 4) := by kernel_rfl
theorem madeU32 (n : Nat) : madeCells (Value.int .u32 0).cells (n * 1) = (u32s (List.replicate n 0)).toArray := by
  rw [u32s_zeros, Nat.mul_one]
  apply Array.toList_inj.1
  exact (toList_madeCells_one _ _).trans (by simp)
theorem make_nat (n : Nat) (hn : n ≤ 35184372088832) (w : World) : (Instr.makeSlice 24 (.int .i64 (n : Int)) (.int .i64 (n : Int))).run Try.prog w = .ok (.slice (some ⟨w.heap.size, 0, none⟩) n n) (w.alloc (.cells (u32s (List.replicate n 0)).toArray 30)) := by
  obtain ⟨i0, hi, hz0, hz1, hz2⟩ := info_parts infoU32
  have h := run_make (P := Try.prog) w 24 30 i0 _ Try.underlying24 hi hz0 .i64 .i64 n n (by omega) (by omega) (by rw [hz2]; omega) (by omega)
  rw [hz1] at h
  simp only [Int.toNat_natCast] at h
  rw [h, madeU32]
theorem u32s_zero_at {pre : List Nat} {k n : Nat} (hp : pre.length = k) (hk : k < n) : (u32s (pre ++ List.replicate (n - k) 0))[k]? = some (.int .u32 0) := by
  rw [u32s_get, List.getElem?_append_right (by omega), hp, Nat.sub_self, List.getElem?_replicate, if_pos (by omega)]; rfl
set_option maxRecDepth 20000 in
theorem add_any (A1 A2 : Option Addr) (c1 c2 : Nat) (l1 l2 : List Nat) (w : World) (h1 : SlW w A1 c1 l1) (h2 : SlW w A2 c2 l2) (hl1 : l1.length ≤ 1000000000) (hl2 : l2.length ≤ 1000000000) :
    Calls Try.prog 54 #[.slice A1 l1.length c1, .slice A2 l2.length c2] w (RNat (val l1 + val l2) w) := by
  refine calls_b fun g => ?_
  obtain ⟨n, hn⟩ : ∃ n : Nat, max l1.length l2.length + 1 = n := ⟨_, rfl⟩
  have hn1 : l1.length < n := by omega
  have hn2 : l2.length < n := by omega
  have hn3 : n ≤ 1000000001 := by omega
  have hmk : ∀ m : Nat, m + 1 = n → ∀ w, (Instr.makeSlice 24 (.int .i64 ((m : Int) + 1)) (.int .i64 ((m : Int) + 1))).run Try.prog w = .ok (.slice (some ⟨w.heap.size, 0, none⟩) n n) (w.alloc (.cells (u32s (List.replicate n 0)).toArray 30)) := by
    intro m hm w
    have := make_nat n (by omega) w
    rw [← hm] at this ⊢
    exact this
  have hmk' : l1.length < l2.length ∨ ¬ l1.length < l2.length := by omega
  rcases hmk' with hlt | hlt
  all_goals
    first | have hmk := hmk l2.length (by omega) | have hmk := hmk l1.length (by omega)
    clear hn
    go_enter Try.func54, Try.ntmps54
    go_wp2_with (with_reducible refine G.any_mark _ ?_; (try generalize Array.size (World.heap (G.w _)) = bk); (try dsimp only [List.set_cons_zero, List.set_cons_succ]); (try clear g); intro g)
    rename_i kb _ _
    go_loopw [19] (fun i wr => ∃ (k c : Nat) (pre : List Nat), i = .int .i64 k ∧ k ≤ n ∧ pre.length = k ∧ Ok pre ∧ c ≤ 1 ∧ val pre + 4294967296 ^ k * c = val (l1.take k) + val (l2.take k) ∧ ∃ g : G w [] [(bk, 30, u32s (pre ++ List.replicate (n - k) 0)), (kb, 74, [.int .u32 (c : Int)])] [heapOf w], wr = g.w) (fun i _ => n - (intOf i).toNat)
    case atStart => exact ⟨0, 0, [], rfl, Nat.zero_le _, rfl, Ok.nil, by omega, by simp [val], g, rfl⟩
    case round =>
      clear g hmk
      obtain ⟨k, c, pre, rfl, hk, hp, hok, hc, hv, g, rfl⟩ := hrel
      have HP := Lib.hid hp
      have HV := Lib.hid hv
      clear hp hv
      by_cases hk2 : k < n
      · go_wp2_with (with_reducible refine G.any_mark _ ?_; (try generalize Array.size (World.heap (G.w _)) = bk); (try dsimp only [List.set_cons_zero, List.set_cons_succ]); (try clear g); intro g)
        refine (limb_any _ _ l1 k _ (g.sl (by simp) h1) (by omega)).mono ?_; rintro e w1 ⟨rfl, rfl⟩
        go_wp2_with (with_reducible refine G.any_mark _ ?_; (try generalize Array.size (World.heap (G.w _)) = bk); (try dsimp only [List.set_cons_zero, List.set_cons_succ]); (try clear g); intro g)
        refine (limb_any _ _ l2 k _ (g.sl (by simp) h2) (by omega)).mono ?_; rintro e w1 ⟨rfl, rfl⟩
        go_wp2_with (with_reducible refine G.any_mark _ ?_; (try generalize Array.size (World.heap (G.w _)) = bk); (try dsimp only [List.set_cons_zero, List.set_cons_succ]); (try clear g); intro g)
        have hx := h1.ok.getD k
        have hy := h2.ok.getD k
        have hpl := u32s_zero_at HP.out hk2
        have st := Lib.hid (add_step (l1 := l1) (l2 := l2) (c := c) HP.out HV.out)
        have hq := Lib.hid (set_zeros' HP.out hk2 ((l1.getD k 0 + l2.getD k 0 + c) % 4294967296))
        have hc2 : (l1.getD k 0 + l2.getD k 0 + c) / 4294967296 ≤ 1 := by omega
        refine (cadd_any kb c (l1.getD k 0) (l2.getD k 0) hx hy (by omega) _ g.blk1).mono ?_
        rintro e w1 ⟨rfl, hch, hcb⟩
        obtain ⟨g1, rfl⟩ := g.mut1 (cs' := [.int .u32 (((l1.getD k 0 + l2.getD k 0 + c) / 4294967296 : Nat) : Int)]) hch hcb
        clear g hch hcb
        revert g1
        intro g
        have hr : (l1.getD k 0 + l2.getD k 0 + c) % 4294967296 < 4294967296 := by omega
        generalize (l1.getD k 0 + l2.getD k 0 + c) % 4294967296 = r at *
        generalize (l1.getD k 0 + l2.getD k 0 + c) / 4294967296 = c2 at *
        go_wp2_with (with_reducible refine G.any_mark _ ?_; (try generalize Array.size (World.heap (G.w _)) = bk); (try dsimp only [List.set_cons_zero, List.set_cons_succ]); (try clear g); intro g)
        obtain ⟨g2, hg2⟩ := g.as (by rw [u32s_set, hq.out])
        exact ⟨⟨k + 1, c2, pre ++ [r], by go_num, by omega, by rw [List.length_append, HP.out]; rfl, hok.append (Ok.cons hr Ok.nil), hc2, st.out, g2, hg2⟩, by simp [intOf]; omega⟩
      · obtain rfl : k = n := by omega
        obtain ⟨e1, rfl⟩ := add_end h1.ok h2.ok hn1 hn2 HV.out
        obtain ⟨g2, hg2⟩ := g.as (M' := [(bk, 30, u32s pre), (kb, 74, [.int .u32 ((0 : Nat) : Int)])]) (by rw [Nat.sub_self, List.replicate_zero, List.append_nil])
        rw [hg2]
        clear hg2 g
        revert g2
        intro g
        have E1 := Lib.hid e1
        clear e1
        have hp := HP.out
        subst hp
        have hsl : SlW g.w (some ⟨bk, 0, none⟩) pre.length pre := (sl_blk (Nat.le_refl _) (by omega) hok).at (blkF_sub g.blk0)
        go_wp2_with (with_reducible refine G.any_mark _ ?_; (try generalize Array.size (World.heap (G.w _)) = bk); (try dsimp only [List.set_cons_zero, List.set_cons_succ]); (try clear g); intro g)
        refine (trim_any _ _ pre _ hsl).mono ?_
        rintro e w1 ⟨rfl, hb⟩
        obtain ⟨g1, rfl⟩ := G.call_ex _ hb
        clear hb hsl g
        revert g1
        intro g
        go_wp2_with (with_reducible refine G.any_mark _ ?_; (try generalize Array.size (World.heap (G.w _)) = bk); (try dsimp only [List.set_cons_zero, List.set_cons_succ]); (try clear g); intro g)
        go_ret
        exact rnat_end g (List.mem_cons_self ..) hok (Nat.le_refl _) (by omega) E1.out
end Go.Proofs.Ytfifcpgjcgoinaa
