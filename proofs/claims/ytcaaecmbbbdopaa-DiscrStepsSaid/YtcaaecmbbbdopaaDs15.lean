/- Plain facts and contracts of functions of the program, out of walks. Their conditions stand ahead of each. -/
import Derived.Test.YtcaaecmbbbdopaaDs14
import Derived.Below
import Derived.BigQuiet
import Derived.Deep.DeepCutAuto
import Derived.Deep.Draws
import Derived.Deep.QuietTactic
import Derived.Deep.RegionHeld
import Derived.Deep.RegionHeld3
import Derived.Deep.WholeRow
import Derived.Great.BuildSlice
import Derived.Laws.Bits128
import Derived.Laws.NewBlocks
import Derived.Laws.OwnMore
import Derived.Laws.Pointers
import Derived.Laws.Rows
import Derived.Lib.Hide
import Derived.Maps.AppendAt
import Derived.OrdersHeld
import Derived.RowKit3
import Derived.StillTactics
import Derived.StillTailTactics
import Derived.Test.YtcaaecmbbbdopaaProg
import Derived.WalkKit
import Derived.WalkLawsBesides
import Derived.WalkSpells
set_option linter.unusedVariables false
set_option linter.unusedSimpArgs false
namespace Go.Proofs.Ytcaaecmbbbdopaa
open Go.RowKit GW
set_option maxRecDepth 20000 in
set_option maxHeartbeats 8000000 in
theorem check12_ex (B : Option Addr) (c n ov : Nat) (pb nz fi dl st ph ba : Int) (o1 : 1 ≤ ov) (o2 : ov ≤ 3) (p1 : 1 ≤ pb) (p2 : pb ≤ 3) (z1 : 0 ≤ nz) (z2 : nz ≤ 100) (n1 : 1 ≤ n) (n3 : n ≤ 3) (f1 : 1 ≤ fi) (f2 : fi ≤ 20) (d1 : 0 ≤ dl) (d2 : dl < 31 * (ov : Int)) (b1 : 0 ≤ ba) (b2 : ba < pb) (w : World) (hp : SiW w B c (prns fi n)) :
    Calls Try.prog 23 #[planV 5 ov pb 1 1 nz (.slice B n c), emV fi dl 0 st ph 1 ba (.slice none 0 0)] w fun e w' => e = .returned (.int .i64 0) ∧ Below w.heap.size w w' := by
  refine calls_b fun g => ?_
  have hcap := hp.cap
  have hmax := hp.max
  rw [prns_len] at hcap
  have CPl := Lib.hid (fun w hp => cplan_ex B c n ov pb nz fi o1 o2 p1 p2 z1 z2 n1 n3 f1 f2 w hp)
  have HP := Lib.hid hp
  have CS := Lib.hid (fun w => size_any ov o2 pb nz (.slice B n c) w)
  obtain ⟨bp, op, rfl, hcell⟩ := ints_cells hp.ints (by rw [prns_len]; omega)
  rw [prns_len] at hcell
  have hc0 : ∀ (M : List Blk) (g : G w [] M [heapOf w]), g.w.cell? ⟨bp, op, none⟩ = some (.int .i64 fi) := fun M g => by
    have := hcell 0 (by omega) _ _ _ _ g (List.mem_singleton.2 rfl)
    rw [prns_get _ _ _ (by omega)] at this
    simpa using this
  have n0 : 0 < n := n1
  have n1i : (0 : Int) < (n : Int) := by omega
  have a1' : decide (dl < 0) = false := decide_eq_false (by omega)
  have a2' : decide (31 * (ov : Int) ≤ dl) = false := decide_eq_false (by omega)
  have a3' : decide (ba < 0) = false := decide_eq_false (by omega)
  have a4' : decide (pb ≤ ba) = false := decide_eq_false (by omega)
  clear hcell hp o1 o2 p1 p2 z1 z2 n3 f1 f2 d1 d2 b1 b2 n1
  go_enter Try.func23, Try.ntmps23
  go_wp2_with (with_reducible refine G.any_mark _ ?_; (try generalize Array.size (World.heap (G.w _)) = bk); (try dsimp only [List.set_cons_zero, List.set_cons_succ]); (try clear g); intro g)
  refine (CPl.out _ (G.si g (by simp) HP.out)).mono ?_
  rintro e w1 ⟨rfl, hb⟩
  obtain ⟨g1, rfl⟩ := G.call_ex _ hb
  clear hb
  (try clear g)
  revert g1
  intro g
  go_wp2_with (with_reducible refine G.any_mark _ ?_; (try generalize Array.size (World.heap (G.w _)) = bk); (try dsimp only [List.set_cons_zero, List.set_cons_succ]); (try clear g); intro g)
  rename_i bq K0 Q0
  obtain ⟨be, rfl⟩ : ∃ b : Nat, b = bk := ⟨_, rfl⟩
  clear CPl HP
  go_loopg [6, 7] n (fun gk s6 s7 wr => ∃ (k : Nat), k + gk = n ∧ s7 = .int .i64 (k : Int) ∧ s6 = .bool (decide (0 < k)) ∧ ∃ g : G w [] [(be, 30, [.int .i64 fi, .int .i64 dl, .int .i64 0, .int .u32 st, .int .u32 ph, .int .i64 1, .int .i64 ba, .slice none 0 0]), (bq, 26, [.int .i64 5, .int .i64 ov, .int .i64 pb, .int .i64 2, .int .i64 1, .int .i64 1, .int .i64 nz, .slice (some ⟨bp, op, none⟩) n c])] [heapOf w], wr = g.w)
  case atStart => exact ⟨0, by omega, rfl, rfl, g, rfl⟩
  case round =>
    clear g
    obtain ⟨kq, rfl⟩ : ∃ kq : Nat, kq = gk := ⟨_, rfl⟩
    obtain ⟨k, hkg, rfl, rfl, g, rfl⟩ := hrel
    by_cases hk : k < n
    · have hki : (k : Int) < (n : Int) := by omega
      have hk0 : (0 : Int) ≤ (k : Int) := by omega
      rcases Nat.eq_zero_or_pos k with rfl | hpos
      · go_wp2_with (with_reducible refine G.any_mark _ ?_; (try generalize Array.size (World.heap (G.w _)) = bk); (try dsimp only [List.set_cons_zero, List.set_cons_succ]); (try clear g); intro g)
        go_region_held3 (fun W => G.heldN g [true, true] W ∧ W.cell? ⟨bp, op, none⟩ = some (.int .i64 fi)) (first | exact ⟨(by simp [G.heldN, HeldN, go_sem]), hc0 _ _⟩ | ((simp only [G.drew_eq, G.drewN_eq]); exact ⟨(by simp [G.heldN, HeldN, go_sem]), hc0 _ _⟩)) (fail)
        all_goals (first | ((try simp only [G.drew_eq, G.drewN_eq]); (refine G.any_mark _ ?_; (try clear g); intro g)) | skip)
        all_goals go_wp2_with (with_reducible refine G.any_mark _ ?_; (try generalize Array.size (World.heap (G.w _)) = bk); (try dsimp only [List.set_cons_zero, List.set_cons_succ]); (try clear g); intro g)
        go_roundg (kq - 1)
        case measure => omega
        case rel => exact ⟨1, by omega, by go_num, rfl, g, rfl⟩
      · have hd : decide (0 < k) = true := decide_eq_true hpos
        rw [hd]
        go_wp2_with (with_reducible refine G.any_mark _ ?_; (try generalize Array.size (World.heap (G.w _)) = bk); (try dsimp only [List.set_cons_zero, List.set_cons_succ]); (try clear g); intro g)
        refine wp_region_held_drew (S := G.heldN g [true, true]) (by kernel_rfl) (by simp [G.heldN, HeldN, go_sem]) (fun hHeld => ?_)
        refine wpAnyH_take (i := 0) (v := ?_) rfl (by kernel_rfl) (by kernel_rfl) (by kernel_rfl) (fun _ _ _ h => h) (Or.inl ⟨by rfl, ?_⟩) (by assumption) ?_
        rotate_left 1
        · (intro w hSw; (try dsimp only at hSw); go_simp; (try with_reducible rfl))
        (try simp only [Act.put, List.getElem_toArray, List.getElem_cons_zero, List.getElem_cons_succ, List.setIfInBounds_toArray, List.set_cons_zero, List.set_cons_succ])
        (try simp only [Act.put, List.getElem_toArray, List.getElem_cons_zero, List.getElem_cons_succ, List.setIfInBounds_toArray, List.set_cons_zero, List.set_cons_succ])
        refine wpAnyH_take (i := 1) (v := ?_) rfl (by kernel_rfl) (by kernel_rfl) (by kernel_rfl) (fun _ _ _ h => h) (Or.inl ⟨by rfl, ?_⟩) (by assumption) ?_
        rotate_left 1
        · (intro w hSw; (try dsimp only at hSw); go_simp; (try with_reducible rfl))
        (try simp only [Act.put, List.getElem_toArray, List.getElem_cons_zero, List.getElem_cons_succ, List.setIfInBounds_toArray, List.set_cons_zero, List.set_cons_succ])
        (try simp only [Act.put, List.getElem_toArray, List.getElem_cons_zero, List.getElem_cons_succ, List.setIfInBounds_toArray, List.set_cons_zero, List.set_cons_succ])
        refine wpAnyH_take (i := 2) (v := undef) rfl (by kernel_rfl) (by kernel_rfl) (by kernel_rfl) (fun _ _ _ h => h) (Or.inr ⟨by rfl, rfl⟩) (by assumption) ?_
        (try simp only [Act.put, List.getElem_toArray, List.getElem_cons_zero, List.getElem_cons_succ, List.setIfInBounds_toArray, List.set_cons_zero, List.set_cons_succ])
        (try simp only [Act.put, List.getElem_toArray, List.getElem_cons_zero, List.getElem_cons_succ, List.setIfInBounds_toArray, List.set_cons_zero, List.set_cons_succ])
        refine wpAnyH_take (i := 3) (v := undef) rfl (by kernel_rfl) (by kernel_rfl) (by kernel_rfl) (fun _ _ _ h => h) (Or.inr ⟨by rfl, rfl⟩) (by assumption) ?_
        (try simp only [Act.put, List.getElem_toArray, List.getElem_cons_zero, List.getElem_cons_succ, List.setIfInBounds_toArray, List.set_cons_zero, List.set_cons_succ])
        (try simp only [Act.put, List.getElem_toArray, List.getElem_cons_zero, List.getElem_cons_succ, List.setIfInBounds_toArray, List.set_cons_zero, List.set_cons_succ])
        refine wpAnyH_take (i := 4) (v := undef) rfl (by kernel_rfl) (by kernel_rfl) (by kernel_rfl) (fun _ _ _ h => h) (Or.inr ⟨by rfl, rfl⟩) (by assumption) ?_
        (try simp only [Act.put, List.getElem_toArray, List.getElem_cons_zero, List.getElem_cons_succ, List.setIfInBounds_toArray, List.set_cons_zero, List.set_cons_succ])
        (try simp only [Act.put, List.getElem_toArray, List.getElem_cons_zero, List.getElem_cons_succ, List.setIfInBounds_toArray, List.set_cons_zero, List.set_cons_succ])
        refine wpAnyH_take (i := 5) (v := undef) rfl (by kernel_rfl) (by kernel_rfl) (by kernel_rfl) (fun _ _ _ h => h) (Or.inr ⟨by rfl, rfl⟩) (by assumption) ?_
        (try simp only [Act.put, List.getElem_toArray, List.getElem_cons_zero, List.getElem_cons_succ, List.setIfInBounds_toArray, List.set_cons_zero, List.set_cons_succ])
        (try simp only [Act.put, List.getElem_toArray, List.getElem_cons_zero, List.getElem_cons_succ, List.setIfInBounds_toArray, List.set_cons_zero, List.set_cons_succ])
        refine wpAnyH_take (i := 6) (v := undef) rfl (by kernel_rfl) (by kernel_rfl) (by kernel_rfl) (fun _ _ _ h => h) (Or.inr ⟨by rfl, rfl⟩) (by assumption) ?_
        (try simp only [Act.put, List.getElem_toArray, List.getElem_cons_zero, List.getElem_cons_succ, List.setIfInBounds_toArray, List.set_cons_zero, List.set_cons_succ])
        (try simp only [Act.put, List.getElem_toArray, List.getElem_cons_zero, List.getElem_cons_succ, List.setIfInBounds_toArray, List.set_cons_zero, List.set_cons_succ])
        refine wpAnyH_take (i := 7) (v := undef) rfl (by kernel_rfl) (by kernel_rfl) (by kernel_rfl) (fun _ _ _ h => h) (Or.inr ⟨by rfl, rfl⟩) (by assumption) ?_
        (try simp only [Act.put, List.getElem_toArray, List.getElem_cons_zero, List.getElem_cons_succ, List.setIfInBounds_toArray, List.set_cons_zero, List.set_cons_succ])
        (try simp only [Act.put, List.getElem_toArray, List.getElem_cons_zero, List.getElem_cons_succ, List.setIfInBounds_toArray, List.set_cons_zero, List.set_cons_succ])
        refine wpAnyH_take (i := 8) (v := undef) rfl (by kernel_rfl) (by kernel_rfl) (by kernel_rfl) (fun _ _ _ h => h) (Or.inr ⟨by rfl, rfl⟩) (by assumption) ?_
        (try simp only [Act.put, List.getElem_toArray, List.getElem_cons_zero, List.getElem_cons_succ, List.setIfInBounds_toArray, List.set_cons_zero, List.set_cons_succ])
        (try simp only [Act.put, List.getElem_toArray, List.getElem_cons_zero, List.getElem_cons_succ, List.setIfInBounds_toArray, List.set_cons_zero, List.set_cons_succ])
        refine wpAnyH_take (i := 9) (v := undef) rfl (by kernel_rfl) (by kernel_rfl) (by kernel_rfl) (fun _ _ _ h => h) (Or.inr ⟨by rfl, rfl⟩) (by assumption) ?_
        (try simp only [Act.put, List.getElem_toArray, List.getElem_cons_zero, List.getElem_cons_succ, List.setIfInBounds_toArray, List.set_cons_zero, List.set_cons_succ])
        (try simp only [Act.put, List.getElem_toArray, List.getElem_cons_zero, List.getElem_cons_succ, List.setIfInBounds_toArray, List.set_cons_zero, List.set_cons_succ])
        refine wpAnyH_take (i := 10) (v := ?_) rfl (by kernel_rfl) (by kernel_rfl) (by kernel_rfl) (fun _ _ _ h => h) (Or.inl ⟨by rfl, ?_⟩) (by assumption) ?_
        rotate_left 1
        · (intro w hSw; (try dsimp only at hSw); go_simp; (try with_reducible rfl))
        (try simp only [Act.put, List.getElem_toArray, List.getElem_cons_zero, List.getElem_cons_succ, List.setIfInBounds_toArray, List.set_cons_zero, List.set_cons_succ])
        (try simp only [Act.put, List.getElem_toArray, List.getElem_cons_zero, List.getElem_cons_succ, List.setIfInBounds_toArray, List.set_cons_zero, List.set_cons_succ])
        refine wpAnyH_take (i := 11) (v := ?_) rfl (by kernel_rfl) (by kernel_rfl) (by kernel_rfl) (fun _ _ _ h => h) (Or.inl ⟨by rfl, ?_⟩) (by assumption) ?_
        rotate_left 1
        · (intro w hSw; (try dsimp only at hSw); go_simp; (try with_reducible rfl))
        (try simp only [Act.put, List.getElem_toArray, List.getElem_cons_zero, List.getElem_cons_succ, List.setIfInBounds_toArray, List.set_cons_zero, List.set_cons_succ])
        (try simp only [Act.put, List.getElem_toArray, List.getElem_cons_zero, List.getElem_cons_succ, List.setIfInBounds_toArray, List.set_cons_zero, List.set_cons_succ])
        refine wpAnyH_done (by kernel_rfl) ?_ _
        clear hHeld
        (first | ((try simp only [G.drew_eq, G.drewN_eq]); (refine G.any_mark _ ?_; (try clear g); intro g)) | skip)
        go_wp2_with (with_reducible refine G.any_mark _ ?_; (try generalize Array.size (World.heap (G.w _)) = bk); (try dsimp only [List.set_cons_zero, List.set_cons_succ]); (try clear g); intro g)
        go_roundg (kq - 1)
        case measure => omega
        case rel => exact ⟨k + 1, by omega, by go_num, by rw [decide_eq_true (Nat.succ_pos k)], g, rfl⟩
    · have hkn : k = n := by omega
      subst hkn
      have hd : decide (0 < k) = true := decide_eq_true n0
      rw [hd]
      go_wp2_with (with_reducible refine G.any_mark _ ?_; (try generalize Array.size (World.heap (G.w _)) = bk); (try dsimp only [List.set_cons_zero, List.set_cons_succ]); (try clear g); intro g)
      go_region_held3 (G.heldN g [true, true]) (simp [G.heldN, HeldN, go_sem]) (first
        | (go_at_call 38; (with_reducible refine (CS.out _).mono ?_); rintro e w1 ⟨rfl, hb⟩; obtain ⟨g1, rfl⟩ := G.call_ex _ hb; clear hb; (try clear g); revert g1; intro g))
      all_goals (first | ((try simp only [G.drew_eq, G.drewN_eq]); (refine G.any_mark _ ?_; (try clear g); intro g)) | skip)
      all_goals go_wp2_with (with_reducible refine G.any_mark _ ?_; (try generalize Array.size (World.heap (G.w _)) = bk); (try dsimp only [List.set_cons_zero, List.set_cons_succ]); (try clear g); intro g)
      go_loopg [8] 0 (fun gk s8 wr => s8 = .int .i64 0 ∧ ∃ g : G w [] [(be, 30, [.int .i64 fi, .int .i64 dl, .int .i64 0, .int .u32 st, .int .u32 ph, .int .i64 1, .int .i64 ba, .slice none 0 0]), (bq, 26, [.int .i64 5, .int .i64 ov, .int .i64 pb, .int .i64 2, .int .i64 1, .int .i64 1, .int .i64 nz, .slice (some ⟨bp, op, none⟩) k c])] [heapOf w], wr = g.w)
      case atStart => exact ⟨rfl, g, rfl⟩
      case round =>
        clear g
        obtain ⟨kq2, rfl⟩ : ∃ kq : Nat, kq = gk := ⟨_, rfl⟩
        obtain ⟨rfl, g, rfl⟩ := hrel
        go_wp2_with (with_reducible refine G.any_mark _ ?_; (try generalize Array.size (World.heap (G.w _)) = bk); (try dsimp only [List.set_cons_zero, List.set_cons_succ]); (try clear g); intro g)
        go_ret
        exact ⟨rfl, G.below _⟩
end Go.Proofs.Ytcaaecmbbbdopaa
