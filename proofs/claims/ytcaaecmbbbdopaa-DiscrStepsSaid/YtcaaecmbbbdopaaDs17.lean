/- Plain facts and contracts of functions of the program, out of walks. Their conditions stand ahead of each. -/
import Derived.Test.YtcaaecmbbbdopaaDs9
import Derived.Test.YtcaaecmbbbdopaaDs13
import Derived.Below
import Derived.BigQuiet
import Derived.Deep.DeepCutAuto
import Derived.Deep.Draws
import Derived.Deep.QuietTactic
import Derived.Deep.RegionHeld
import Derived.Deep.RegionHeld3
import Derived.Deep.RegionLaw
import Derived.Laws.CopyOwn
import Derived.Laws.NewBlocks
import Derived.Laws.OwnMore
import Derived.Laws.Pointers
import Derived.Laws.Rows
import Derived.Laws.Tables
import Derived.Lib.BitFns
import Derived.Lib.Hide
import Derived.Lib.ItoaNum
import Derived.Maps.AppendAt
import Derived.OrdersHeld
import Derived.RowKit3
import Derived.StillTactics
import Derived.StillTailTactics
import Derived.Test.YtcaaecmbbbdopaaProg
import Derived.WalkKit
import Derived.WalkLawsBesides
import Derived.WalkSpells
set_option linter.unusedVariables false
set_option linter.unusedSimpArgs false
namespace Go.Proofs.Ytcaaecmbbbdopaa
open Go.RowKit GW
def REm (fi ov pb : Int) (l : List Int) (w : World) (e : Ending) (w' : World) : Prop :=
  ∃ rt st C vn vc, e = .returned (emV fi (smF l 0 (31 * ov)) rt st (smF l 4 64 * 67108864) 1 (smF l 6 pb) (.slice C vn vc)) ∧ Below w.heap.size w w'
theorem em_built (fi x0 rt u4 y z x6 : Int) : Try.prog.built 30 [(0, .int .i64 fi), (1, .int .i64 x0), (2, .int .i64 rt), (3, .int .u32 u4), (4, .int .u32 y), (5, .int .i64 z), (6, .int .i64 x6)] = some #[.int .i64 fi, .int .i64 x0, .int .i64 rt, .int .u32 u4, .int .u32 y, .int .i64 z, .int .i64 x6, .slice none 0 0] := by kernel_rfl
set_option maxRecDepth 20000 in
set_option maxHeartbeats 80000000 in
theorem emit_ex (A B : Option Addr) (c k n : Nat) (l : List Int) (ov pb nz fi : Int) (o1 : 1 ≤ ov) (o2 : ov ≤ 3) (p1 : 1 ≤ pb) (p2 : pb ≤ 3) (n1 : 1 ≤ n) (n9 : n ≤ 8) (w : World) (hs : SiW w A c l) (hl : l.length ≤ 20) (hp : SiW w B k (prns fi n)) :
    Calls Try.prog 7 #[planV 5 ov pb 1 1 nz (.slice B n k), .int .i64 0, .slice A l.length c] w (REm fi ov pb l w) := by
  refine calls_b fun g => ?_
  obtain ⟨ti0, hi, hz0, hz1, hz2⟩ := info_parts infoInt
  have mk := fun (i : Nat) (n v : Int) (h1 : 1 ≤ n) (h2 : n ≤ 1000000000000) (h3 : i ≤ 1000000) (hv : smF l i n = v) => (fun (w : World) (hs : SiW w A c l) => by
    have := some_any A c l i n h1 h2 w hs h3
    rw [hv] at this
    exact this : ∀ w : World, SiW w A c l → Calls Try.prog 19 #[.slice A l.length c, .int .i64 (i : Int), .int .i64 n] w fun e w' => e = .returned (.int .i64 v) ∧ Below w.heap.size w w')
  unfold REm
  have b0 := smF_bd l 0 (n := 31 * ov) (by omega)
  have b1 := smF_bd l 1 (n := 129) (by decide)
  have b2 := smF_bd l 2 (n := 64) (by decide)
  have b3 := smF_bd l 3 (n := 67108864) (by decide)
  have b4 := smF_bd l 4 (n := 64) (by decide)
  have b6 := smF_bd l 6 (n := pb) (by omega)
  have b5 : smF l 5 1 = 0 := by have := smF_bd l 5 (n := 1) (by decide); omega
  obtain ⟨x0, h0⟩ : ∃ x, smF l 0 (31 * ov) = x := ⟨_, rfl⟩
  obtain ⟨x1, h1⟩ : ∃ x, smF l 1 129 = x := ⟨_, rfl⟩
  obtain ⟨x2, h2⟩ : ∃ x, smF l 2 64 = x := ⟨_, rfl⟩
  obtain ⟨x3, h3⟩ : ∃ x, smF l 3 67108864 = x := ⟨_, rfl⟩
  obtain ⟨x4, h4⟩ : ∃ x, smF l 4 64 = x := ⟨_, rfl⟩
  obtain ⟨x6, h6⟩ : ∃ x, smF l 6 pb = x := ⟨_, rfl⟩
  have C0 := Lib.hid (mk 0 (31 * ov) x0 (by omega) (by omega) (by decide) h0)
  have C1 := Lib.hid (mk 1 129 x1 (by decide) (by decide) (by decide) h1)
  have C2 := Lib.hid (mk 2 64 x2 (by decide) (by decide) (by decide) h2)
  have C3 := Lib.hid (mk 3 67108864 x3 (by decide) (by decide) (by decide) h3)
  have C4 := Lib.hid (mk 4 64 x4 (by decide) (by decide) (by decide) h4)
  have C5 := Lib.hid (mk 5 1 0 (by decide) (by decide) (by decide) b5)
  have C6 := Lib.hid (mk 6 pb x6 (by omega) (by omega) (by decide) h6)
  simp only [Int.natCast_zero, Int.cast_ofNat_Int] at C0 C1 C2 C3 C4 C5 C6
  rw [h0, h4, h6]
  rw [h0] at b0; rw [h1] at b1; rw [h2] at b2; rw [h3] at b3; rw [h4] at b4; rw [h6] at b6
  have hpl : (0 : Nat) < (prns fi n).length := by rw [prns_len]; omega
  obtain ⟨bp, op, rfl, hcell⟩ := hp.ints.cell hpl
  have hc0 : ∀ (M : List Blk) (g : G w [] M [heapOf w]), g.w.cell? ⟨bp, op, none⟩ = some (.int .i64 fi) := fun M g => by
    have := hcell 0 hpl
    rw [prns_get _ _ _ (by omega)] at this
    exact g.frag_cell (List.mem_singleton.2 rfl) (by simpa using this)
  have CT := Lib.hid (fun w => turn_any 0 n (by omega) (by omega) w)
  simp only [Int.zero_emod] at CT
  clear h0 h1 h2 h3 h4 h6 mk b5 hcell hpl hp
  have e31 : IntKind.i64.wrap (IntKind.i64.wrap (IntKind.i64.wrap 32 - 1) * ov) = 31 * ov := by rw [show IntKind.i64.wrap (IntKind.i64.wrap 32 - 1) = 31 by decide, IntKind.wrap_i64]; omega
  have e31' : wrap64 (31 * ov) = 31 * ov := by unfold wrap64; omega
  have e5 : IntKind.i64.wrap (IntKind.i64.wrap 0 + 1) = 1 := by decide
  have ea1 : IntKind.u32.wrap x4 = x4 := by rw [IntKind.wrap_u32]; omega
  have ea2 : IntKind.u32.wrap (x4 * 67108864) = x4 * 67108864 := by rw [IntKind.wrap_u32]; omega
  have ea3 : IntKind.i64.wrap 1 = 1 := by decide
  have hsl := Lib.hid hs
  have n0 : 0 < n := n1
  have n1i : (0 : Int) < (n : Int) := by omega
  have n1j : (0 : Int) ≤ (n : Int) := by omega
  obtain ⟨m, hm⟩ : ∃ m, l.length = m := ⟨_, rfl⟩
  rw [hm] at C0 C1 C2 C3 C4 C5 C6 ⊢
  clear b0 b1 b2 b3 b4 b6 o1 o2 p1 p2 hs
  go_enter Try.func7, Try.ntmps7
  go_wp2_with (with_reducible refine G.any_mark _ ?_; (try generalize Array.size (World.heap (G.w _)) = bk); (try dsimp only [List.set_cons_zero, List.set_cons_succ]); (try clear g); intro g)
  rename_i bz K9 hx9
  obtain ⟨rt, hrt⟩ : ∃ rt, IntKind.i64.wrap (x1 - 64) = rt := ⟨_, rfl⟩
  have hrt' : wrap64 (x1 - 64) = rt := by rw [← hrt, IntKind.wrap_i64]; unfold wrap64; rfl
  obtain ⟨u1, hu1⟩ : ∃ u1, IntKind.u32.wrap x2 = u1 := ⟨_, rfl⟩
  obtain ⟨u2, hu2⟩ : ∃ u2, IntKind.u32.wrap (u1 * 67108864) = u2 := ⟨_, rfl⟩
  obtain ⟨u3, hu3⟩ : ∃ u3, IntKind.u32.wrap x3 = u3 := ⟨_, rfl⟩
  obtain ⟨u4, hu4⟩ : ∃ u4, IntKind.u32.wrap (u2 + u3) = u4 := ⟨_, rfl⟩
  go_cut [7] (fun r7 wx => ∃ (be : Nat) (rt st : Int) (g : G w [] [(be, 30, [.int .i64 fi, .int .i64 x0, .int .i64 (rt), .int .u32 (st), .int .u32 (x4 * 67108864), .int .i64 1, .int .i64 x6, .slice none 0 0]), (bk, 30, [.int .i64 0, .int .i64 0, .int .i64 0, .int .u32 0, .int .u32 0, .int .i64 0, .int .i64 0, .slice none 0 0])] [heapOf w]), r7 = .pointer (some ⟨be, 0, none⟩) ∧ wx = g.w)
  case first =>
    refine wp_region_held_drew (S := fun W => G.heldN g [false, true] W ∧ W.cell? ⟨bp, op, none⟩ = some (.int .i64 fi)) (by kernel_rfl) (by (first | exact ⟨(by simp [G.heldN, HeldN, go_sem]), hc0 _ _⟩ | ((simp only [G.drew_eq, G.drewN_eq]); exact ⟨(by simp [G.heldN, HeldN, go_sem]), hc0 _ _⟩))) (fun hHeld => ?_)
    refine wpAnyH_take (i := 0) (v := ?_) rfl (by kernel_rfl) (by kernel_rfl) (by kernel_rfl) (fun _ _ _ h => h) (Or.inl ⟨by rfl, ?_⟩) (by assumption) ?_
    rotate_left 1
    · (intro w hSw; (try dsimp only at hSw); go_simp; (try with_reducible rfl))
    (try simp only [Act.put, List.getElem_toArray, List.getElem_cons_zero, List.getElem_cons_succ, List.setIfInBounds_toArray, List.set_cons_zero, List.set_cons_succ])
    refine wpAnyH_take (i := 1) (v := ?_) rfl (by kernel_rfl) (by kernel_rfl) (by kernel_rfl) (fun _ _ _ h => h) (Or.inl ⟨by rfl, ?_⟩) (by assumption) ?_
    rotate_left 1
    · (intro w hSw; (try dsimp only at hSw); go_simp; (try with_reducible rfl))
    (try simp only [Act.put, List.getElem_toArray, List.getElem_cons_zero, List.getElem_cons_succ, List.setIfInBounds_toArray, List.set_cons_zero, List.set_cons_succ])
    refine wpAnyH_take (i := 2) (v := ?_) rfl (by kernel_rfl) (by kernel_rfl) (by kernel_rfl) (fun _ _ _ h => h) (Or.inl ⟨by rfl, ?_⟩) (by assumption) ?_
    rotate_left 1
    · (intro w hSw; (try dsimp only at hSw); go_simp; (try with_reducible rfl))
    (try simp only [Act.put, List.getElem_toArray, List.getElem_cons_zero, List.getElem_cons_succ, List.setIfInBounds_toArray, List.set_cons_zero, List.set_cons_succ])
    refine wpAnyH_take (i := 3) (v := ?_) rfl (by kernel_rfl) (by kernel_rfl) (by kernel_rfl) (fun _ _ _ h => h) (Or.inl ⟨by rfl, ?_⟩) (by assumption) ?_
    rotate_left 1
    · (intro w hSw; (try dsimp only at hSw); go_simp; (try with_reducible rfl))
    (try simp only [Act.put, List.getElem_toArray, List.getElem_cons_zero, List.getElem_cons_succ, List.setIfInBounds_toArray, List.set_cons_zero, List.set_cons_succ])
    refine wpAnyH_take (i := 4) (v := ?_) rfl (by kernel_rfl) (by kernel_rfl) (by kernel_rfl) (fun _ _ _ h => h) (Or.inl ⟨by rfl, ?_⟩) (by assumption) ?_
    rotate_left 1
    · (intro w hSw; (try dsimp only at hSw); go_simp; (try with_reducible rfl))
    (try simp only [Act.put, List.getElem_toArray, List.getElem_cons_zero, List.getElem_cons_succ, List.setIfInBounds_toArray, List.set_cons_zero, List.set_cons_succ])
    refine wpAnyH_take (i := 5) (v := ?_) rfl (by kernel_rfl) (by kernel_rfl) (by kernel_rfl) (fun _ _ _ h => h) (Or.inl ⟨by rfl, ?_⟩) (by assumption) ?_
    rotate_left 1
    · (intro w hSw; (try dsimp only at hSw); go_simp; (try with_reducible rfl))
    (try simp only [Act.put, List.getElem_toArray, List.getElem_cons_zero, List.getElem_cons_succ, List.setIfInBounds_toArray, List.set_cons_zero, List.set_cons_succ])
    refine wpAnyH_take (i := 9) (v := ?_) rfl (by kernel_rfl) (by kernel_rfl) (by kernel_rfl) (fun _ _ _ h => h) (Or.inl ⟨by rfl, ?_⟩) (by assumption) ?_
    rotate_left 1
    · (intro w hSw; (try dsimp only at hSw); go_simp; (try with_reducible rfl))
    (try simp only [Act.put, List.getElem_toArray, List.getElem_cons_zero, List.getElem_cons_succ, List.setIfInBounds_toArray, List.set_cons_zero, List.set_cons_succ])
    refine wpAnyH_take (i := 10) (v := ?_) rfl (by kernel_rfl) (by kernel_rfl) (by kernel_rfl) (fun _ _ _ h => h) (Or.inl ⟨by rfl, ?_⟩) (by assumption) ?_
    rotate_left 1
    · (intro w hSw; (try dsimp only at hSw); go_simp; (try with_reducible rfl))
    (try simp only [Act.put, List.getElem_toArray, List.getElem_cons_zero, List.getElem_cons_succ, List.setIfInBounds_toArray, List.set_cons_zero, List.set_cons_succ])
    refine wpAnyH_take (i := 11) (v := ?_) rfl (by kernel_rfl) (by kernel_rfl) (by kernel_rfl) (fun _ _ _ h => h) (Or.inl ⟨by rfl, ?_⟩) (by assumption) ?_
    rotate_left 1
    · (intro w hSw; (try dsimp only at hSw); go_simp; (try with_reducible rfl))
    (try simp only [Act.put, List.getElem_toArray, List.getElem_cons_zero, List.getElem_cons_succ, List.setIfInBounds_toArray, List.set_cons_zero, List.set_cons_succ])
    refine wpAnyH_take (i := 12) (v := ?_) rfl (by kernel_rfl) (by kernel_rfl) (by kernel_rfl) (fun _ _ _ h => h) (Or.inl ⟨by rfl, ?_⟩) (by assumption) ?_
    rotate_left 1
    · (intro w hSw; (try dsimp only at hSw); go_simp; (try with_reducible rfl))
    (try simp only [Act.put, List.getElem_toArray, List.getElem_cons_zero, List.getElem_cons_succ, List.setIfInBounds_toArray, List.set_cons_zero, List.set_cons_succ])
    refine wpAnyH_take (i := 13) (v := ?_) rfl (by kernel_rfl) (by kernel_rfl) (by kernel_rfl) (fun _ _ _ h => h) (Or.inl ⟨by rfl, ?_⟩) (by assumption) ?_
    rotate_left 1
    · (intro w hSw; (try dsimp only at hSw); go_simp; (try with_reducible rfl))
    (try simp only [Act.put, List.getElem_toArray, List.getElem_cons_zero, List.getElem_cons_succ, List.setIfInBounds_toArray, List.set_cons_zero, List.set_cons_succ])
    refine wpAnyH_take (i := 14) (v := ?_) rfl (by kernel_rfl) (by kernel_rfl) (by kernel_rfl) (fun _ _ _ h => h) (Or.inl ⟨by rfl, ?_⟩) (by assumption) ?_
    rotate_left 1
    · (intro w hSw; (try dsimp only at hSw); go_simp; (try with_reducible rfl))
    (try simp only [Act.put, List.getElem_toArray, List.getElem_cons_zero, List.getElem_cons_succ, List.setIfInBounds_toArray, List.set_cons_zero, List.set_cons_succ])
    refine wpAnyH_take (i := 15) (v := ?_) rfl (by kernel_rfl) (by kernel_rfl) (by kernel_rfl) (fun _ _ _ h => h) (Or.inl ⟨by rfl, ?_⟩) (by assumption) ?_
    rotate_left 1
    · (intro w hSw; (try dsimp only at hSw); go_simp; (try with_reducible rfl))
    (try simp only [Act.put, List.getElem_toArray, List.getElem_cons_zero, List.getElem_cons_succ, List.setIfInBounds_toArray, List.set_cons_zero, List.set_cons_succ])
    refine wpAnyH_take (i := 16) (v := ?_) rfl (by kernel_rfl) (by kernel_rfl) (by kernel_rfl) (fun _ _ _ h => h) (Or.inl ⟨by rfl, ?_⟩) (by assumption) ?_
    rotate_left 1
    · (intro w hSw; (try dsimp only at hSw); go_simp; (try with_reducible rfl))
    (try simp only [Act.put, List.getElem_toArray, List.getElem_cons_zero, List.getElem_cons_succ, List.setIfInBounds_toArray, List.set_cons_zero, List.set_cons_succ])
    refine wpAnyH_take (i := 18) (v := ?_) rfl (by kernel_rfl) (by kernel_rfl) (by kernel_rfl) (fun _ _ _ h => h) (Or.inl ⟨by rfl, ?_⟩) (by assumption) ?_
    rotate_left 1
    · (intro w hSw; (try dsimp only at hSw); go_simp; (try with_reducible rfl))
    (try simp only [Act.put, List.getElem_toArray, List.getElem_cons_zero, List.getElem_cons_succ, List.setIfInBounds_toArray, List.set_cons_zero, List.set_cons_succ])
    refine wpAnyH_take (i := 21) (v := ?_) rfl (by kernel_rfl) (by kernel_rfl) (by kernel_rfl) (fun _ _ _ h => h) (Or.inl ⟨by rfl, ?_⟩) (by assumption) ?_
    rotate_left 1
    · (intro w hSw; (try dsimp only at hSw); go_simp; (try with_reducible rfl))
    (try simp only [Act.put, List.getElem_toArray, List.getElem_cons_zero, List.getElem_cons_succ, List.setIfInBounds_toArray, List.set_cons_zero, List.set_cons_succ])
    refine wpAnyH_take (i := 25) (v := ?_) rfl (by kernel_rfl) (by kernel_rfl) (by kernel_rfl) (fun _ _ _ h => h) (Or.inl ⟨by rfl, ?_⟩) (by assumption) ?_
    rotate_left 1
    · (intro w hSw; (try dsimp only at hSw); go_simp; (try with_reducible rfl))
    (try simp only [Act.put, List.getElem_toArray, List.getElem_cons_zero, List.getElem_cons_succ, List.setIfInBounds_toArray, List.set_cons_zero, List.set_cons_succ])
    refine wpAnyH_take (i := 29) (v := ?_) rfl (by kernel_rfl) (by kernel_rfl) (by kernel_rfl) (fun _ _ _ h => h) (Or.inl ⟨by rfl, ?_⟩) (by assumption) ?_
    rotate_left 1
    · (intro w hSw; (try dsimp only at hSw); go_simp; (try with_reducible rfl))
    (try simp only [Act.put, List.getElem_toArray, List.getElem_cons_zero, List.getElem_cons_succ, List.setIfInBounds_toArray, List.set_cons_zero, List.set_cons_succ])
    refine wpAnyH_take (i := 33) (v := ?_) rfl (by kernel_rfl) (by kernel_rfl) (by kernel_rfl) (fun _ _ _ h => h) (Or.inl ⟨by rfl, ?_⟩) (by assumption) ?_
    rotate_left 1
    · (intro w hSw; (try dsimp only at hSw); go_simp; (try with_reducible rfl))
    (try simp only [Act.put, List.getElem_toArray, List.getElem_cons_zero, List.getElem_cons_succ, List.setIfInBounds_toArray, List.set_cons_zero, List.set_cons_succ])
    refine wpAnyH_take (i := 34) (v := ?_) rfl (by kernel_rfl) (by kernel_rfl) (by kernel_rfl) (fun _ _ _ h => h) (Or.inl ⟨by rfl, ?_⟩) (by assumption) ?_
    rotate_left 1
    · (intro w hSw; (try dsimp only at hSw); go_simp; (try with_reducible rfl))
    (try simp only [Act.put, List.getElem_toArray, List.getElem_cons_zero, List.getElem_cons_succ, List.setIfInBounds_toArray, List.set_cons_zero, List.set_cons_succ])
    refine wpAnyH_take (i := 35) (v := ?_) rfl (by kernel_rfl) (by kernel_rfl) (by kernel_rfl) (fun _ _ _ h => h) (Or.inl ⟨by rfl, ?_⟩) (by assumption) ?_
    rotate_left 1
    · (intro w hSw; (try dsimp only at hSw); go_simp; (try with_reducible rfl))
    (try simp only [Act.put, List.getElem_toArray, List.getElem_cons_zero, List.getElem_cons_succ, List.setIfInBounds_toArray, List.set_cons_zero, List.set_cons_succ])
    refine wpAnyH_take (i := 36) (v := ?_) rfl (by kernel_rfl) (by kernel_rfl) (by kernel_rfl) (fun _ _ _ h => h) (Or.inl ⟨by rfl, ?_⟩) (by assumption) ?_
    rotate_left 1
    · (intro w hSw; (try dsimp only at hSw); go_simp; (try with_reducible rfl))
    (try simp only [Act.put, List.getElem_toArray, List.getElem_cons_zero, List.getElem_cons_succ, List.setIfInBounds_toArray, List.set_cons_zero, List.set_cons_succ])
    refine wpAnyH_take (i := 37) (v := ?_) rfl (by kernel_rfl) (by kernel_rfl) (by kernel_rfl) (fun _ _ _ h => h) (Or.inl ⟨by rfl, ?_⟩) (by assumption) ?_
    rotate_left 1
    · (intro w hSw; (try dsimp only at hSw); go_simp; (try with_reducible rfl))
    (try simp only [Act.put, List.getElem_toArray, List.getElem_cons_zero, List.getElem_cons_succ, List.setIfInBounds_toArray, List.set_cons_zero, List.set_cons_succ])
    refine wpAnyH_take (i := 38) (v := ?_) rfl (by kernel_rfl) (by kernel_rfl) (by kernel_rfl) (fun _ _ _ h => h) (Or.inl ⟨by rfl, ?_⟩) (by assumption) ?_
    rotate_left 1
    · (intro w hSw; (try dsimp only at hSw); go_simp; (try with_reducible rfl))
    (try simp only [Act.put, List.getElem_toArray, List.getElem_cons_zero, List.getElem_cons_succ, List.setIfInBounds_toArray, List.set_cons_zero, List.set_cons_succ])
    refine wpAnyH_take (i := 39) (v := ?_) rfl (by kernel_rfl) (by kernel_rfl) (by kernel_rfl) (fun _ _ _ h => h) (Or.inl ⟨by rfl, ?_⟩) (by assumption) ?_
    rotate_left 1
    · (intro w hSw; (try dsimp only at hSw); go_simp; (try with_reducible rfl))
    (try simp only [Act.put, List.getElem_toArray, List.getElem_cons_zero, List.getElem_cons_succ, List.setIfInBounds_toArray, List.set_cons_zero, List.set_cons_succ])
    refine wpAnyH_take (i := 40) (v := ?_) rfl (by kernel_rfl) (by kernel_rfl) (by kernel_rfl) (fun _ _ _ h => h) (Or.inl ⟨by rfl, ?_⟩) (by assumption) ?_
    rotate_left 1
    · (intro w hSw; (try dsimp only at hSw); go_simp; (try with_reducible rfl))
    (try simp only [Act.put, List.getElem_toArray, List.getElem_cons_zero, List.getElem_cons_succ, List.setIfInBounds_toArray, List.set_cons_zero, List.set_cons_succ])
    refine wpAnyH_take (i := 41) (v := ?_) rfl (by kernel_rfl) (by kernel_rfl) (by kernel_rfl) (fun _ _ _ h => h) (Or.inl ⟨by rfl, ?_⟩) (by assumption) ?_
    rotate_left 1
    · (intro w hSw; (try dsimp only at hSw); go_simp; (try with_reducible rfl))
    (try simp only [Act.put, List.getElem_toArray, List.getElem_cons_zero, List.getElem_cons_succ, List.setIfInBounds_toArray, List.set_cons_zero, List.set_cons_succ])
    refine wpAnyH_take (i := 44) (v := ?_) rfl (by kernel_rfl) (by kernel_rfl) (by kernel_rfl) (fun _ _ _ h => h) (Or.inl ⟨by rfl, ?_⟩) (by assumption) ?_
    rotate_left 1
    · (intro w hSw; (try dsimp only at hSw); go_simp; (try with_reducible rfl))
    (try simp only [Act.put, List.getElem_toArray, List.getElem_cons_zero, List.getElem_cons_succ, List.setIfInBounds_toArray, List.set_cons_zero, List.set_cons_succ])
    refine wpAnyH_take (i := 45) (v := ?_) rfl (by kernel_rfl) (by kernel_rfl) (by kernel_rfl) (fun _ _ _ h => h) (Or.inl ⟨by rfl, ?_⟩) (by assumption) ?_
    rotate_left 1
    · (intro w hSw; (try dsimp only at hSw); go_simp; (try with_reducible rfl))
    (try simp only [Act.put, List.getElem_toArray, List.getElem_cons_zero, List.getElem_cons_succ, List.setIfInBounds_toArray, List.set_cons_zero, List.set_cons_succ])
    refine wpAnyH_take (i := 46) (v := ?_) rfl (by kernel_rfl) (by kernel_rfl) (by kernel_rfl) (fun _ _ _ h => h) (Or.inl ⟨by rfl, ?_⟩) (by assumption) ?_
    rotate_left 1
    · (intro w hSw; (try dsimp only at hSw); go_simp; (try with_reducible rfl))
    (try simp only [Act.put, List.getElem_toArray, List.getElem_cons_zero, List.getElem_cons_succ, List.setIfInBounds_toArray, List.set_cons_zero, List.set_cons_succ])
    clear hHeld
    ((try simp only [G.drew_eq, G.drewN_eq]); (refine G.any_mark _ ?_; (try clear g); intro g))
    refine wpAnyH_named (fun WP hin hout => ?_)
    replace hin := Lib.hid hin
    replace hout := Lib.hid hout
    refine named_act (fun A hA => ?_)
    have T8_1 : ∀ (qb : Nat) (g : G w [] [(qb, 30, [.int .i64 0, .int .i64 0, .int .i64 0, .int .u32 0, .int .u32 0, .int .i64 0, .int .i64 0, .slice none 0 0]), (bk, 30, [.int .i64 0, .int .i64 0, .int .i64 0, .int .u32 0, .int .u32 0, .int .i64 0, .int .i64 0, .slice none 0 0]), (bz, 26, [.int .i64 5, .int .i64 ov, .int .i64 pb, .int .i64 2, .int .i64 1, .int .i64 1, .int .i64 nz, .slice (some ⟨bp, op, none⟩) n k])] [heapOf w]), WP 1 #[true, true, true, true, true, true, true, true, true, true, true, true, true, true, true, true, true, true, true, true, true, true, true, true, true, true, true, true, true, true, true, true, true, true, true, true, true, true, true, true, true, true, true, true, true, true, true, true, true, true, false] ((((((((((((((((((((A.put (some (15 : Nat)) (.int .i64 (0))).put (some (16 : Nat)) (.pointer (some ⟨bp, op, none⟩))).put (some (17 : Nat)) (.int .i64 (fi))).put (some (26 : Nat)) (.int .i64 (x0))).put (some (28 : Nat)) (.int .i64 (x1))).put (some (29 : Nat)) (.int .i64 (rt))).put (some (31 : Nat)) (.int .i64 (x2))).put (some (32 : Nat)) (.int .u32 (u1))).put (some (33 : Nat)) (.int .u32 (u2))).put (some (35 : Nat)) (.int .i64 (x3))).put (some (36 : Nat)) (.int .u32 (u3))).put (some (37 : Nat)) (.int .u32 (u4))).put (some (39 : Nat)) (.int .i64 (x4))).put (some (40 : Nat)) (.int .u32 (x4))).put (some (41 : Nat)) (.int .u32 (x4 * 67108864))).put (some (51 : Nat)) (.int .i64 (0))).put (some (52 : Nat)) (.int .i64 (1))).put (some (56 : Nat)) (.int .i64 (x6))).put (some (57 : Nat)) (.agg #[.int .i64 fi, .int .i64 x0, .int .i64 (rt), .int .u32 (u4), .int .u32 (x4 * 67108864), .int .i64 1, .int .i64 x6, .slice none 0 0])).put (some (7 : Nat)) (.pointer (some ⟨qb, 0, none⟩))) g.w := by
      as_aux_lemma =>
        intro qb g
        subst hA
        refine hin.out _ _ _ _ ?_
        (try simp only [Act.put, List.getElem_toArray, List.getElem_cons_zero, List.getElem_cons_succ, List.setIfInBounds_toArray, List.set_cons_zero, List.set_cons_succ])
        have hHeld := True.intro
        refine wpAnyH_ready (rs := [50]) (by kernel_rfl) (by simp) ?_
        refine allReadyH_cons rfl rfl (fun K hK => ?_) AllReadyH.nil
        clear hHeld
        refine wp_store_row 30 (.tmp 7) (.tmp 57) rfl qb #[.int .i64 fi, .int .i64 x0, .int .i64 (rt), .int .u32 (u4), .int .u32 (x4 * 67108864), .int .i64 1, .int .i64 x6, .slice none 0 0] rfl rfl 30 _ g.blk0 (by kernel_rfl) rfl (by kernel_rfl) ?_
        obtain ⟨g1, e1⟩ := G.setRow0_ex g [.int .i64 fi, .int .i64 x0, .int .i64 (rt), .int .u32 (u4), .int .u32 (x4 * 67108864), .int .i64 1, .int .i64 x6, .slice none 0 0]
        rw [e1]
        clear e1
        clear g
        revert g1
        intro g
        refine hK.out _ _ (by (first | exact ⟨(by simp [G.heldN, HeldN, go_sem]), hc0 _ _⟩ | ((simp only [G.drew_eq, G.drewN_eq]); exact ⟨(by simp [G.heldN, HeldN, go_sem]), hc0 _ _⟩))) (fun hHeld => ?_)
        clear hK K
        (try simp only [Act.put, List.getElem_toArray, List.getElem_cons_zero, List.getElem_cons_succ, List.setIfInBounds_toArray, List.set_cons_zero, List.set_cons_succ])
        refine wpAnyH_done (by kernel_rfl) ?_ _
        clear hHeld
        (first | ((try simp only [G.drew_eq, G.drewN_eq]); (refine G.any_mark _ ?_; (try clear g); intro g)) | skip)
        go_wp2_with fail
        go_meet
        obtain ⟨g3, e3⟩ := G.less g (List.Sublist.cons_cons _ (List.Sublist.cons_cons _ (List.Sublist.cons _ List.Sublist.slnil)))
        exact ⟨_, _, _, g3, rfl, e3⟩
    replace T8_1 := Lib.hid T8_1
    have T8_0 : ∀ (g : G w [] [(bk, 30, [.int .i64 0, .int .i64 0, .int .i64 0, .int .u32 0, .int .u32 0, .int .i64 0, .int .i64 0, .slice none 0 0]), (bz, 26, [.int .i64 5, .int .i64 ov, .int .i64 pb, .int .i64 2, .int .i64 1, .int .i64 1, .int .i64 nz, .slice (some ⟨bp, op, none⟩) n k])] [heapOf w]), WP 2 #[true, true, true, true, true, true, true, true, true, true, true, true, true, true, true, true, true, true, true, true, true, true, true, true, true, true, true, true, true, true, true, true, true, true, true, true, true, true, true, true, true, true, true, true, true, true, true, true, true, false, false] (((((((((((((((((((A.put (some (15 : Nat)) (.int .i64 (0))).put (some (16 : Nat)) (.pointer (some ⟨bp, op, none⟩))).put (some (17 : Nat)) (.int .i64 (fi))).put (some (26 : Nat)) (.int .i64 (x0))).put (some (28 : Nat)) (.int .i64 (x1))).put (some (29 : Nat)) (.int .i64 (rt))).put (some (31 : Nat)) (.int .i64 (x2))).put (some (32 : Nat)) (.int .u32 (u1))).put (some (33 : Nat)) (.int .u32 (u2))).put (some (35 : Nat)) (.int .i64 (x3))).put (some (36 : Nat)) (.int .u32 (u3))).put (some (37 : Nat)) (.int .u32 (u4))).put (some (39 : Nat)) (.int .i64 (x4))).put (some (40 : Nat)) (.int .u32 (x4))).put (some (41 : Nat)) (.int .u32 (x4 * 67108864))).put (some (51 : Nat)) (.int .i64 (0))).put (some (52 : Nat)) (.int .i64 (1))).put (some (56 : Nat)) (.int .i64 (x6))).put (some (57 : Nat)) (.agg #[.int .i64 fi, .int .i64 x0, .int .i64 (rt), .int .u32 (u4), .int .u32 (x4 * 67108864), .int .i64 1, .int .i64 x6, .slice none 0 0])) g.w := by
      as_aux_lemma =>
        intro g
        subst hA
        refine hin.out _ _ _ _ ?_
        (try simp only [Act.put, List.getElem_toArray, List.getElem_cons_zero, List.getElem_cons_succ, List.setIfInBounds_toArray, List.set_cons_zero, List.set_cons_succ])
        have hHeld := True.intro
        refine wpAnyH_ready (rs := [49]) (by kernel_rfl) (by simp) ?_
        refine allReadyH_cons rfl rfl (fun K hK => ?_) AllReadyH.nil
        go_simp
        clear hHeld
        refine hK.out _ _ (by (first | exact ⟨(by simp [G.heldN, HeldN, go_sem]), hc0 _ _⟩ | ((simp only [G.drew_eq, G.drewN_eq]); exact ⟨(by simp [G.heldN, HeldN, go_sem]), hc0 _ _⟩))) (fun hHeld => ?_)
        clear hK K
        (try simp only [Act.put, List.getElem_toArray, List.getElem_cons_zero, List.getElem_cons_succ, List.setIfInBounds_toArray, List.set_cons_zero, List.set_cons_succ])
        clear hHeld
        exact hout.out _ _ _ _ (named_conv rfl (by kernel_rfl) (by simp only [Act.put, List.setIfInBounds_toArray, List.set_cons_zero, List.set_cons_succ]) (T8_1.out g.w.heap.size (g.new [.int .i64 0, .int .i64 0, .int .i64 0, .int .u32 0, .int .u32 0, .int .i64 0, .int .i64 0, .slice none 0 0] 30).mark))
    replace T8_0 := Lib.hid T8_0
    have T7_1 : ∀ (qb : Nat) (g : G w [] [(qb, 30, [.int .i64 0, .int .i64 0, .int .i64 0, .int .u32 0, .int .u32 0, .int .i64 0, .int .i64 0, .slice none 0 0]), (bk, 30, [.int .i64 0, .int .i64 0, .int .i64 0, .int .u32 0, .int .u32 0, .int .i64 0, .int .i64 0, .slice none 0 0]), (bz, 26, [.int .i64 5, .int .i64 ov, .int .i64 pb, .int .i64 2, .int .i64 1, .int .i64 1, .int .i64 nz, .slice (some ⟨bp, op, none⟩) n k])] [heapOf w]), WP 3 #[true, true, true, true, true, true, true, true, true, true, true, true, true, true, true, true, true, true, true, true, true, true, true, true, true, true, true, true, true, true, true, true, true, true, true, true, true, true, true, true, true, true, true, true, true, true, true, false, false, true, false] ((((((((((((((((((A.put (some (15 : Nat)) (.int .i64 (0))).put (some (16 : Nat)) (.pointer (some ⟨bp, op, none⟩))).put (some (17 : Nat)) (.int .i64 (fi))).put (some (26 : Nat)) (.int .i64 (x0))).put (some (28 : Nat)) (.int .i64 (x1))).put (some (29 : Nat)) (.int .i64 (rt))).put (some (31 : Nat)) (.int .i64 (x2))).put (some (32 : Nat)) (.int .u32 (u1))).put (some (33 : Nat)) (.int .u32 (u2))).put (some (35 : Nat)) (.int .i64 (x3))).put (some (36 : Nat)) (.int .u32 (u3))).put (some (37 : Nat)) (.int .u32 (u4))).put (some (39 : Nat)) (.int .i64 (x4))).put (some (40 : Nat)) (.int .u32 (x4))).put (some (41 : Nat)) (.int .u32 (x4 * 67108864))).put (some (51 : Nat)) (.int .i64 (0))).put (some (52 : Nat)) (.int .i64 (1))).put (some (7 : Nat)) (.pointer (some ⟨qb, 0, none⟩))) g.w := by
      as_aux_lemma =>
        intro qb g
        subst hA
        refine hin.out _ _ _ _ ?_
        (try simp only [Act.put, List.getElem_toArray, List.getElem_cons_zero, List.getElem_cons_succ, List.setIfInBounds_toArray, List.set_cons_zero, List.set_cons_succ])
        have hHeld := True.intro
        refine wpAnyH_ready (rs := [47]) (by kernel_rfl) (by simp) ?_
        refine allReadyH_cons rfl rfl (fun K hK => ?_) AllReadyH.nil
        go_simp
        go_at_call 19
        (with_reducible refine (C6.out _ ?_).mono ?_); (· exact G.si _ (by simp) hsl.out)
        rintro e w1 ⟨rfl, hb⟩
        clear hHeld
        obtain ⟨g1, rfl⟩ := G.call_ex _ hb
        clear hb
        (try clear g)
        revert g1
        intro g
        refine hK.out _ _ (by (first | exact ⟨(by simp [G.heldN, HeldN, go_sem]), hc0 _ _⟩ | ((simp only [G.drew_eq, G.drewN_eq]); exact ⟨(by simp [G.heldN, HeldN, go_sem]), hc0 _ _⟩))) (fun hHeld => ?_)
        clear hK K
        (try simp only [Act.put, List.getElem_toArray, List.getElem_cons_zero, List.getElem_cons_succ, List.setIfInBounds_toArray, List.set_cons_zero, List.set_cons_succ])
        refine wpAnyH_take (i := 48) (v := .agg #[.int .i64 fi, .int .i64 x0, .int .i64 (rt), .int .u32 (u4), .int .u32 (x4 * 67108864), .int .i64 1, .int .i64 x6, .slice none 0 0]) rfl (by kernel_rfl) (by kernel_rfl) (by kernel_rfl) (fun _ _ _ h => h) (yields_build 30 _ rfl rfl _ _ (by simp [go_sem]) (em_built fi x0 rt u4 (x4 * 67108864) 1 x6)) (by assumption) ?_
        (try simp only [Act.put, List.getElem_toArray, List.getElem_cons_zero, List.getElem_cons_succ, List.setIfInBounds_toArray, List.set_cons_zero, List.set_cons_succ])
        clear hHeld
        refine hout.out _ _ _ _ (named_conv rfl (by kernel_rfl) (by simp only [Act.put, List.setIfInBounds_toArray, List.set_cons_zero, List.set_cons_succ]) (T8_1.out _ g))
    replace T7_1 := Lib.hid T7_1
    have T7_0 : ∀ (g : G w [] [(bk, 30, [.int .i64 0, .int .i64 0, .int .i64 0, .int .u32 0, .int .u32 0, .int .i64 0, .int .i64 0, .slice none 0 0]), (bz, 26, [.int .i64 5, .int .i64 ov, .int .i64 pb, .int .i64 2, .int .i64 1, .int .i64 1, .int .i64 nz, .slice (some ⟨bp, op, none⟩) n k])] [heapOf w]), WP 4 #[true, true, true, true, true, true, true, true, true, true, true, true, true, true, true, true, true, true, true, true, true, true, true, true, true, true, true, true, true, true, true, true, true, true, true, true, true, true, true, true, true, true, true, true, true, true, true, false, false, false, false] (((((((((((((((((A.put (some (15 : Nat)) (.int .i64 (0))).put (some (16 : Nat)) (.pointer (some ⟨bp, op, none⟩))).put (some (17 : Nat)) (.int .i64 (fi))).put (some (26 : Nat)) (.int .i64 (x0))).put (some (28 : Nat)) (.int .i64 (x1))).put (some (29 : Nat)) (.int .i64 (rt))).put (some (31 : Nat)) (.int .i64 (x2))).put (some (32 : Nat)) (.int .u32 (u1))).put (some (33 : Nat)) (.int .u32 (u2))).put (some (35 : Nat)) (.int .i64 (x3))).put (some (36 : Nat)) (.int .u32 (u3))).put (some (37 : Nat)) (.int .u32 (u4))).put (some (39 : Nat)) (.int .i64 (x4))).put (some (40 : Nat)) (.int .u32 (x4))).put (some (41 : Nat)) (.int .u32 (x4 * 67108864))).put (some (51 : Nat)) (.int .i64 (0))).put (some (52 : Nat)) (.int .i64 (1))) g.w := by
      as_aux_lemma =>
        intro g
        subst hA
        refine hin.out _ _ _ _ ?_
        (try simp only [Act.put, List.getElem_toArray, List.getElem_cons_zero, List.getElem_cons_succ, List.setIfInBounds_toArray, List.set_cons_zero, List.set_cons_succ])
        have hHeld := True.intro
        refine wpAnyH_ready (rs := [47, 49]) (by kernel_rfl) (by simp) ?_
        refine allReadyH_cons rfl rfl (fun K hK => ?_) (allReadyH_cons rfl rfl (fun K hK => ?_) AllReadyH.nil)
        · go_simp
          go_at_call 19
          (with_reducible refine (C6.out _ ?_).mono ?_); (· exact G.si _ (by simp) hsl.out)
          rintro e w1 ⟨rfl, hb⟩
          clear hHeld
          obtain ⟨g1, rfl⟩ := G.call_ex _ hb
          clear hb
          (try clear g)
          revert g1
          intro g
          refine hK.out _ _ (by (first | exact ⟨(by simp [G.heldN, HeldN, go_sem]), hc0 _ _⟩ | ((simp only [G.drew_eq, G.drewN_eq]); exact ⟨(by simp [G.heldN, HeldN, go_sem]), hc0 _ _⟩))) (fun hHeld => ?_)
          clear hK K
          (try simp only [Act.put, List.getElem_toArray, List.getElem_cons_zero, List.getElem_cons_succ, List.setIfInBounds_toArray, List.set_cons_zero, List.set_cons_succ])
          refine wpAnyH_take (i := 48) (v := .agg #[.int .i64 fi, .int .i64 x0, .int .i64 (rt), .int .u32 (u4), .int .u32 (x4 * 67108864), .int .i64 1, .int .i64 x6, .slice none 0 0]) rfl (by kernel_rfl) (by kernel_rfl) (by kernel_rfl) (fun _ _ _ h => h) (yields_build 30 _ rfl rfl _ _ (by simp [go_sem]) (em_built fi x0 rt u4 (x4 * 67108864) 1 x6)) (by assumption) ?_
          (try simp only [Act.put, List.getElem_toArray, List.getElem_cons_zero, List.getElem_cons_succ, List.setIfInBounds_toArray, List.set_cons_zero, List.set_cons_succ])
          clear hHeld
          refine hout.out _ _ _ _ (named_conv rfl (by kernel_rfl) (by simp only [Act.put, List.setIfInBounds_toArray, List.set_cons_zero, List.set_cons_succ]) (T8_0.out g))
        · go_simp
          clear hHeld
          refine hK.out _ _ (by (first | exact ⟨(by simp [G.heldN, HeldN, go_sem]), hc0 _ _⟩ | ((simp only [G.drew_eq, G.drewN_eq]); exact ⟨(by simp [G.heldN, HeldN, go_sem]), hc0 _ _⟩))) (fun hHeld => ?_)
          clear hK K
          (try simp only [Act.put, List.getElem_toArray, List.getElem_cons_zero, List.getElem_cons_succ, List.setIfInBounds_toArray, List.set_cons_zero, List.set_cons_succ])
          clear hHeld
          exact hout.out _ _ _ _ (named_conv rfl (by kernel_rfl) (by simp only [Act.put, List.setIfInBounds_toArray, List.set_cons_zero, List.set_cons_succ]) (T7_1.out g.w.heap.size (g.new [.int .i64 0, .int .i64 0, .int .i64 0, .int .u32 0, .int .u32 0, .int .i64 0, .int .i64 0, .slice none 0 0] 30).mark))
    replace T7_0 := Lib.hid T7_0
    have T6_1 : ∀ (qb : Nat) (g : G w [] [(qb, 30, [.int .i64 0, .int .i64 0, .int .i64 0, .int .u32 0, .int .u32 0, .int .i64 0, .int .i64 0, .slice none 0 0]), (bk, 30, [.int .i64 0, .int .i64 0, .int .i64 0, .int .u32 0, .int .u32 0, .int .i64 0, .int .i64 0, .slice none 0 0]), (bz, 26, [.int .i64 5, .int .i64 ov, .int .i64 pb, .int .i64 2, .int .i64 1, .int .i64 1, .int .i64 nz, .slice (some ⟨bp, op, none⟩) n k])] [heapOf w]), WP 5 #[true, true, true, true, true, true, true, true, true, true, true, true, true, true, true, true, true, true, true, true, true, true, true, true, true, true, true, true, true, true, true, true, true, true, true, true, true, true, true, true, true, true, false, false, true, true, true, false, false, true, false] ((((((((((((((((A.put (some (15 : Nat)) (.int .i64 (0))).put (some (16 : Nat)) (.pointer (some ⟨bp, op, none⟩))).put (some (17 : Nat)) (.int .i64 (fi))).put (some (26 : Nat)) (.int .i64 (x0))).put (some (28 : Nat)) (.int .i64 (x1))).put (some (29 : Nat)) (.int .i64 (rt))).put (some (31 : Nat)) (.int .i64 (x2))).put (some (32 : Nat)) (.int .u32 (u1))).put (some (33 : Nat)) (.int .u32 (u2))).put (some (35 : Nat)) (.int .i64 (x3))).put (some (36 : Nat)) (.int .u32 (u3))).put (some (37 : Nat)) (.int .u32 (u4))).put (some (39 : Nat)) (.int .i64 (x4))).put (some (40 : Nat)) (.int .u32 (x4))).put (some (41 : Nat)) (.int .u32 (x4 * 67108864))).put (some (7 : Nat)) (.pointer (some ⟨qb, 0, none⟩))) g.w := by
      as_aux_lemma =>
        intro qb g
        subst hA
        refine hin.out _ _ _ _ ?_
        (try simp only [Act.put, List.getElem_toArray, List.getElem_cons_zero, List.getElem_cons_succ, List.setIfInBounds_toArray, List.set_cons_zero, List.set_cons_succ])
        have hHeld := True.intro
        refine wpAnyH_ready (rs := [42]) (by kernel_rfl) (by simp) ?_
        refine allReadyH_cons rfl rfl (fun K hK => ?_) AllReadyH.nil
        go_simp
        go_at_call 19
        (with_reducible refine (C5.out _ ?_).mono ?_); (· exact G.si _ (by simp) hsl.out)
        rintro e w1 ⟨rfl, hb⟩
        clear hHeld
        obtain ⟨g1, rfl⟩ := G.call_ex _ hb
        clear hb
        (try clear g)
        revert g1
        intro g
        refine hK.out _ _ (by (first | exact ⟨(by simp [G.heldN, HeldN, go_sem]), hc0 _ _⟩ | ((simp only [G.drew_eq, G.drewN_eq]); exact ⟨(by simp [G.heldN, HeldN, go_sem]), hc0 _ _⟩))) (fun hHeld => ?_)
        clear hK K
        (try simp only [Act.put, List.getElem_toArray, List.getElem_cons_zero, List.getElem_cons_succ, List.setIfInBounds_toArray, List.set_cons_zero, List.set_cons_succ])
        refine wpAnyH_take (i := 43) (v := ?_) rfl (by kernel_rfl) (by kernel_rfl) (by kernel_rfl) (fun _ _ _ h => h) (Or.inl ⟨by rfl, ?_⟩) (by assumption) ?_
        rotate_left 1
        · (intro w hSw; (try dsimp only at hSw); go_simp; (try with_reducible rfl))
        (try simp only [Act.put, List.getElem_toArray, List.getElem_cons_zero, List.getElem_cons_succ, List.setIfInBounds_toArray, List.set_cons_zero, List.set_cons_succ])
        (try simp only [Act.put, List.getElem_toArray, List.getElem_cons_zero, List.getElem_cons_succ, List.setIfInBounds_toArray, List.set_cons_zero, List.set_cons_succ])
        clear hHeld
        refine hout.out _ _ _ _ (named_conv rfl (by kernel_rfl) (by simp only [Act.put, List.setIfInBounds_toArray, List.set_cons_zero, List.set_cons_succ]) (T7_1.out _ g))
    replace T6_1 := Lib.hid T6_1
    have T6_0 : ∀ (g : G w [] [(bk, 30, [.int .i64 0, .int .i64 0, .int .i64 0, .int .u32 0, .int .u32 0, .int .i64 0, .int .i64 0, .slice none 0 0]), (bz, 26, [.int .i64 5, .int .i64 ov, .int .i64 pb, .int .i64 2, .int .i64 1, .int .i64 1, .int .i64 nz, .slice (some ⟨bp, op, none⟩) n k])] [heapOf w]), WP 6 #[true, true, true, true, true, true, true, true, true, true, true, true, true, true, true, true, true, true, true, true, true, true, true, true, true, true, true, true, true, true, true, true, true, true, true, true, true, true, true, true, true, true, false, false, true, true, true, false, false, false, false] (((((((((((((((A.put (some (15 : Nat)) (.int .i64 (0))).put (some (16 : Nat)) (.pointer (some ⟨bp, op, none⟩))).put (some (17 : Nat)) (.int .i64 (fi))).put (some (26 : Nat)) (.int .i64 (x0))).put (some (28 : Nat)) (.int .i64 (x1))).put (some (29 : Nat)) (.int .i64 (rt))).put (some (31 : Nat)) (.int .i64 (x2))).put (some (32 : Nat)) (.int .u32 (u1))).put (some (33 : Nat)) (.int .u32 (u2))).put (some (35 : Nat)) (.int .i64 (x3))).put (some (36 : Nat)) (.int .u32 (u3))).put (some (37 : Nat)) (.int .u32 (u4))).put (some (39 : Nat)) (.int .i64 (x4))).put (some (40 : Nat)) (.int .u32 (x4))).put (some (41 : Nat)) (.int .u32 (x4 * 67108864))) g.w := by
      as_aux_lemma =>
        intro g
        subst hA
        refine hin.out _ _ _ _ ?_
        (try simp only [Act.put, List.getElem_toArray, List.getElem_cons_zero, List.getElem_cons_succ, List.setIfInBounds_toArray, List.set_cons_zero, List.set_cons_succ])
        have hHeld := True.intro
        refine wpAnyH_ready (rs := [42, 49]) (by kernel_rfl) (by simp) ?_
        refine allReadyH_cons rfl rfl (fun K hK => ?_) (allReadyH_cons rfl rfl (fun K hK => ?_) AllReadyH.nil)
        · go_simp
          go_at_call 19
          (with_reducible refine (C5.out _ ?_).mono ?_); (· exact G.si _ (by simp) hsl.out)
          rintro e w1 ⟨rfl, hb⟩
          clear hHeld
          obtain ⟨g1, rfl⟩ := G.call_ex _ hb
          clear hb
          (try clear g)
          revert g1
          intro g
          refine hK.out _ _ (by (first | exact ⟨(by simp [G.heldN, HeldN, go_sem]), hc0 _ _⟩ | ((simp only [G.drew_eq, G.drewN_eq]); exact ⟨(by simp [G.heldN, HeldN, go_sem]), hc0 _ _⟩))) (fun hHeld => ?_)
          clear hK K
          (try simp only [Act.put, List.getElem_toArray, List.getElem_cons_zero, List.getElem_cons_succ, List.setIfInBounds_toArray, List.set_cons_zero, List.set_cons_succ])
          refine wpAnyH_take (i := 43) (v := ?_) rfl (by kernel_rfl) (by kernel_rfl) (by kernel_rfl) (fun _ _ _ h => h) (Or.inl ⟨by rfl, ?_⟩) (by assumption) ?_
          rotate_left 1
          · (intro w hSw; (try dsimp only at hSw); go_simp; (try with_reducible rfl))
          (try simp only [Act.put, List.getElem_toArray, List.getElem_cons_zero, List.getElem_cons_succ, List.setIfInBounds_toArray, List.set_cons_zero, List.set_cons_succ])
          (try simp only [Act.put, List.getElem_toArray, List.getElem_cons_zero, List.getElem_cons_succ, List.setIfInBounds_toArray, List.set_cons_zero, List.set_cons_succ])
          clear hHeld
          refine hout.out _ _ _ _ (named_conv rfl (by kernel_rfl) (by simp only [Act.put, List.setIfInBounds_toArray, List.set_cons_zero, List.set_cons_succ]) (T7_0.out g))
        · go_simp
          clear hHeld
          refine hK.out _ _ (by (first | exact ⟨(by simp [G.heldN, HeldN, go_sem]), hc0 _ _⟩ | ((simp only [G.drew_eq, G.drewN_eq]); exact ⟨(by simp [G.heldN, HeldN, go_sem]), hc0 _ _⟩))) (fun hHeld => ?_)
          clear hK K
          (try simp only [Act.put, List.getElem_toArray, List.getElem_cons_zero, List.getElem_cons_succ, List.setIfInBounds_toArray, List.set_cons_zero, List.set_cons_succ])
          clear hHeld
          exact hout.out _ _ _ _ (named_conv rfl (by kernel_rfl) (by simp only [Act.put, List.setIfInBounds_toArray, List.set_cons_zero, List.set_cons_succ]) (T6_1.out g.w.heap.size (g.new [.int .i64 0, .int .i64 0, .int .i64 0, .int .u32 0, .int .u32 0, .int .i64 0, .int .i64 0, .slice none 0 0] 30).mark))
    replace T6_0 := Lib.hid T6_0
    have T5_1 : ∀ (qb : Nat) (g : G w [] [(qb, 30, [.int .i64 0, .int .i64 0, .int .i64 0, .int .u32 0, .int .u32 0, .int .i64 0, .int .i64 0, .slice none 0 0]), (bk, 30, [.int .i64 0, .int .i64 0, .int .i64 0, .int .u32 0, .int .u32 0, .int .i64 0, .int .i64 0, .slice none 0 0]), (bz, 26, [.int .i64 5, .int .i64 ov, .int .i64 pb, .int .i64 2, .int .i64 1, .int .i64 1, .int .i64 nz, .slice (some ⟨bp, op, none⟩) n k])] [heapOf w]), WP 8 #[true, true, true, true, true, true, true, true, true, true, true, true, true, true, true, true, true, true, true, true, true, true, true, true, true, true, true, true, true, true, false, false, false, true, true, true, true, true, true, true, true, true, false, false, true, true, true, false, false, true, false] (((((((((((((A.put (some (15 : Nat)) (.int .i64 (0))).put (some (16 : Nat)) (.pointer (some ⟨bp, op, none⟩))).put (some (17 : Nat)) (.int .i64 (fi))).put (some (26 : Nat)) (.int .i64 (x0))).put (some (28 : Nat)) (.int .i64 (x1))).put (some (29 : Nat)) (.int .i64 (rt))).put (some (31 : Nat)) (.int .i64 (x2))).put (some (32 : Nat)) (.int .u32 (u1))).put (some (33 : Nat)) (.int .u32 (u2))).put (some (35 : Nat)) (.int .i64 (x3))).put (some (36 : Nat)) (.int .u32 (u3))).put (some (37 : Nat)) (.int .u32 (u4))).put (some (7 : Nat)) (.pointer (some ⟨qb, 0, none⟩))) g.w := by
      as_aux_lemma =>
        intro qb g
        subst hA
        refine hin.out _ _ _ _ ?_
        (try simp only [Act.put, List.getElem_toArray, List.getElem_cons_zero, List.getElem_cons_succ, List.setIfInBounds_toArray, List.set_cons_zero, List.set_cons_succ])
        have hHeld := True.intro
        refine wpAnyH_ready (rs := [30]) (by kernel_rfl) (by simp) ?_
        refine allReadyH_cons rfl rfl (fun K hK => ?_) AllReadyH.nil
        go_simp
        go_at_call 19
        (with_reducible refine (C4.out _ ?_).mono ?_); (· exact G.si _ (by simp) hsl.out)
        rintro e w1 ⟨rfl, hb⟩
        clear hHeld
        obtain ⟨g1, rfl⟩ := G.call_ex _ hb
        clear hb
        (try clear g)
        revert g1
        intro g
        refine hK.out _ _ (by (first | exact ⟨(by simp [G.heldN, HeldN, go_sem]), hc0 _ _⟩ | ((simp only [G.drew_eq, G.drewN_eq]); exact ⟨(by simp [G.heldN, HeldN, go_sem]), hc0 _ _⟩))) (fun hHeld => ?_)
        clear hK K
        (try simp only [Act.put, List.getElem_toArray, List.getElem_cons_zero, List.getElem_cons_succ, List.setIfInBounds_toArray, List.set_cons_zero, List.set_cons_succ])
        refine wpAnyH_take (i := 31) (v := ?_) rfl (by kernel_rfl) (by kernel_rfl) (by kernel_rfl) (fun _ _ _ h => h) (Or.inl ⟨by rfl, ?_⟩) (by assumption) ?_
        rotate_left 1
        · (intro w hSw; (try dsimp only at hSw); go_simp; (try with_reducible rfl))
        (try simp only [Act.put, List.getElem_toArray, List.getElem_cons_zero, List.getElem_cons_succ, List.setIfInBounds_toArray, List.set_cons_zero, List.set_cons_succ])
        refine wpAnyH_take (i := 32) (v := ?_) rfl (by kernel_rfl) (by kernel_rfl) (by kernel_rfl) (fun _ _ _ h => h) (Or.inl ⟨by rfl, ?_⟩) (by assumption) ?_
        rotate_left 1
        · (intro w hSw; (try dsimp only at hSw); go_simp; (try with_reducible rfl))
        (try simp only [Act.put, List.getElem_toArray, List.getElem_cons_zero, List.getElem_cons_succ, List.setIfInBounds_toArray, List.set_cons_zero, List.set_cons_succ])
        (try simp only [Act.put, List.getElem_toArray, List.getElem_cons_zero, List.getElem_cons_succ, List.setIfInBounds_toArray, List.set_cons_zero, List.set_cons_succ])
        clear hHeld
        refine hout.out _ _ _ _ (named_conv rfl (by kernel_rfl) (by simp only [Act.put, List.setIfInBounds_toArray, List.set_cons_zero, List.set_cons_succ]) (T6_1.out _ g))
    replace T5_1 := Lib.hid T5_1
    have T5_0 : ∀ (g : G w [] [(bk, 30, [.int .i64 0, .int .i64 0, .int .i64 0, .int .u32 0, .int .u32 0, .int .i64 0, .int .i64 0, .slice none 0 0]), (bz, 26, [.int .i64 5, .int .i64 ov, .int .i64 pb, .int .i64 2, .int .i64 1, .int .i64 1, .int .i64 nz, .slice (some ⟨bp, op, none⟩) n k])] [heapOf w]), WP 9 #[true, true, true, true, true, true, true, true, true, true, true, true, true, true, true, true, true, true, true, true, true, true, true, true, true, true, true, true, true, true, false, false, false, true, true, true, true, true, true, true, true, true, false, false, true, true, true, false, false, false, false] ((((((((((((A.put (some (15 : Nat)) (.int .i64 (0))).put (some (16 : Nat)) (.pointer (some ⟨bp, op, none⟩))).put (some (17 : Nat)) (.int .i64 (fi))).put (some (26 : Nat)) (.int .i64 (x0))).put (some (28 : Nat)) (.int .i64 (x1))).put (some (29 : Nat)) (.int .i64 (rt))).put (some (31 : Nat)) (.int .i64 (x2))).put (some (32 : Nat)) (.int .u32 (u1))).put (some (33 : Nat)) (.int .u32 (u2))).put (some (35 : Nat)) (.int .i64 (x3))).put (some (36 : Nat)) (.int .u32 (u3))).put (some (37 : Nat)) (.int .u32 (u4))) g.w := by
      as_aux_lemma =>
        intro g
        subst hA
        refine hin.out _ _ _ _ ?_
        (try simp only [Act.put, List.getElem_toArray, List.getElem_cons_zero, List.getElem_cons_succ, List.setIfInBounds_toArray, List.set_cons_zero, List.set_cons_succ])
        have hHeld := True.intro
        refine wpAnyH_ready (rs := [30, 49]) (by kernel_rfl) (by simp) ?_
        refine allReadyH_cons rfl rfl (fun K hK => ?_) (allReadyH_cons rfl rfl (fun K hK => ?_) AllReadyH.nil)
        · go_simp
          go_at_call 19
          (with_reducible refine (C4.out _ ?_).mono ?_); (· exact G.si _ (by simp) hsl.out)
          rintro e w1 ⟨rfl, hb⟩
          clear hHeld
          obtain ⟨g1, rfl⟩ := G.call_ex _ hb
          clear hb
          (try clear g)
          revert g1
          intro g
          refine hK.out _ _ (by (first | exact ⟨(by simp [G.heldN, HeldN, go_sem]), hc0 _ _⟩ | ((simp only [G.drew_eq, G.drewN_eq]); exact ⟨(by simp [G.heldN, HeldN, go_sem]), hc0 _ _⟩))) (fun hHeld => ?_)
          clear hK K
          (try simp only [Act.put, List.getElem_toArray, List.getElem_cons_zero, List.getElem_cons_succ, List.setIfInBounds_toArray, List.set_cons_zero, List.set_cons_succ])
          refine wpAnyH_take (i := 31) (v := ?_) rfl (by kernel_rfl) (by kernel_rfl) (by kernel_rfl) (fun _ _ _ h => h) (Or.inl ⟨by rfl, ?_⟩) (by assumption) ?_
          rotate_left 1
          · (intro w hSw; (try dsimp only at hSw); go_simp; (try with_reducible rfl))
          (try simp only [Act.put, List.getElem_toArray, List.getElem_cons_zero, List.getElem_cons_succ, List.setIfInBounds_toArray, List.set_cons_zero, List.set_cons_succ])
          refine wpAnyH_take (i := 32) (v := ?_) rfl (by kernel_rfl) (by kernel_rfl) (by kernel_rfl) (fun _ _ _ h => h) (Or.inl ⟨by rfl, ?_⟩) (by assumption) ?_
          rotate_left 1
          · (intro w hSw; (try dsimp only at hSw); go_simp; (try with_reducible rfl))
          (try simp only [Act.put, List.getElem_toArray, List.getElem_cons_zero, List.getElem_cons_succ, List.setIfInBounds_toArray, List.set_cons_zero, List.set_cons_succ])
          (try simp only [Act.put, List.getElem_toArray, List.getElem_cons_zero, List.getElem_cons_succ, List.setIfInBounds_toArray, List.set_cons_zero, List.set_cons_succ])
          clear hHeld
          refine hout.out _ _ _ _ (named_conv rfl (by kernel_rfl) (by simp only [Act.put, List.setIfInBounds_toArray, List.set_cons_zero, List.set_cons_succ]) (T6_0.out g))
        · go_simp
          clear hHeld
          refine hK.out _ _ (by (first | exact ⟨(by simp [G.heldN, HeldN, go_sem]), hc0 _ _⟩ | ((simp only [G.drew_eq, G.drewN_eq]); exact ⟨(by simp [G.heldN, HeldN, go_sem]), hc0 _ _⟩))) (fun hHeld => ?_)
          clear hK K
          (try simp only [Act.put, List.getElem_toArray, List.getElem_cons_zero, List.getElem_cons_succ, List.setIfInBounds_toArray, List.set_cons_zero, List.set_cons_succ])
          clear hHeld
          exact hout.out _ _ _ _ (named_conv rfl (by kernel_rfl) (by simp only [Act.put, List.setIfInBounds_toArray, List.set_cons_zero, List.set_cons_succ]) (T5_1.out g.w.heap.size (g.new [.int .i64 0, .int .i64 0, .int .i64 0, .int .u32 0, .int .u32 0, .int .i64 0, .int .i64 0, .slice none 0 0] 30).mark))
    replace T5_0 := Lib.hid T5_0
    have T4_1 : ∀ (qb : Nat) (g : G w [] [(qb, 30, [.int .i64 0, .int .i64 0, .int .i64 0, .int .u32 0, .int .u32 0, .int .i64 0, .int .i64 0, .slice none 0 0]), (bk, 30, [.int .i64 0, .int .i64 0, .int .i64 0, .int .u32 0, .int .u32 0, .int .i64 0, .int .i64 0, .slice none 0 0]), (bz, 26, [.int .i64 5, .int .i64 ov, .int .i64 pb, .int .i64 2, .int .i64 1, .int .i64 1, .int .i64 nz, .slice (some ⟨bp, op, none⟩) n k])] [heapOf w]), WP 11 #[true, true, true, true, true, true, true, true, true, true, true, true, true, true, true, true, true, true, true, true, true, true, true, true, true, true, false, false, false, true, false, false, false, true, true, true, true, true, true, true, true, true, false, false, true, true, true, false, false, true, false] ((((((((((A.put (some (15 : Nat)) (.int .i64 (0))).put (some (16 : Nat)) (.pointer (some ⟨bp, op, none⟩))).put (some (17 : Nat)) (.int .i64 (fi))).put (some (26 : Nat)) (.int .i64 (x0))).put (some (28 : Nat)) (.int .i64 (x1))).put (some (29 : Nat)) (.int .i64 (rt))).put (some (31 : Nat)) (.int .i64 (x2))).put (some (32 : Nat)) (.int .u32 (u1))).put (some (33 : Nat)) (.int .u32 (u2))).put (some (7 : Nat)) (.pointer (some ⟨qb, 0, none⟩))) g.w := by
      as_aux_lemma =>
        intro qb g
        subst hA
        refine hin.out _ _ _ _ ?_
        (try simp only [Act.put, List.getElem_toArray, List.getElem_cons_zero, List.getElem_cons_succ, List.setIfInBounds_toArray, List.set_cons_zero, List.set_cons_succ])
        have hHeld := True.intro
        refine wpAnyH_ready (rs := [26]) (by kernel_rfl) (by simp) ?_
        refine allReadyH_cons rfl rfl (fun K hK => ?_) AllReadyH.nil
        go_simp
        go_at_call 19
        (with_reducible refine (C3.out _ ?_).mono ?_); (· exact G.si _ (by simp) hsl.out)
        rintro e w1 ⟨rfl, hb⟩
        clear hHeld
        obtain ⟨g1, rfl⟩ := G.call_ex _ hb
        clear hb
        (try clear g)
        revert g1
        intro g
        refine hK.out _ _ (by (first | exact ⟨(by simp [G.heldN, HeldN, go_sem]), hc0 _ _⟩ | ((simp only [G.drew_eq, G.drewN_eq]); exact ⟨(by simp [G.heldN, HeldN, go_sem]), hc0 _ _⟩))) (fun hHeld => ?_)
        clear hK K
        (try simp only [Act.put, List.getElem_toArray, List.getElem_cons_zero, List.getElem_cons_succ, List.setIfInBounds_toArray, List.set_cons_zero, List.set_cons_succ])
        refine wpAnyH_take (i := 27) (v := ?_) rfl (by kernel_rfl) (by kernel_rfl) (by kernel_rfl) (fun _ _ _ h => h) (Or.inl ⟨by rfl, ?_⟩) (by assumption) ?_
        rotate_left 1
        · (intro w hSw; (try dsimp only at hSw); go_simp; (try with_reducible rfl))
        (try simp only [Act.put, List.getElem_toArray, List.getElem_cons_zero, List.getElem_cons_succ, List.setIfInBounds_toArray, List.set_cons_zero, List.set_cons_succ])
        refine wpAnyH_take (i := 28) (v := ?_) rfl (by kernel_rfl) (by kernel_rfl) (by kernel_rfl) (fun _ _ _ h => h) (Or.inl ⟨by rfl, ?_⟩) (by assumption) ?_
        rotate_left 1
        · (intro w hSw; (try dsimp only at hSw); go_simp; (try with_reducible rfl))
        (try simp only [Act.put, List.getElem_toArray, List.getElem_cons_zero, List.getElem_cons_succ, List.setIfInBounds_toArray, List.set_cons_zero, List.set_cons_succ])
        (try simp only [Act.put, List.getElem_toArray, List.getElem_cons_zero, List.getElem_cons_succ, List.setIfInBounds_toArray, List.set_cons_zero, List.set_cons_succ])
        clear hHeld
        refine hout.out _ _ _ _ (named_conv rfl (by kernel_rfl) (by simp only [Act.put, List.setIfInBounds_toArray, List.set_cons_zero, List.set_cons_succ]) (T5_1.out _ g))
    replace T4_1 := Lib.hid T4_1
    have T4_0 : ∀ (g : G w [] [(bk, 30, [.int .i64 0, .int .i64 0, .int .i64 0, .int .u32 0, .int .u32 0, .int .i64 0, .int .i64 0, .slice none 0 0]), (bz, 26, [.int .i64 5, .int .i64 ov, .int .i64 pb, .int .i64 2, .int .i64 1, .int .i64 1, .int .i64 nz, .slice (some ⟨bp, op, none⟩) n k])] [heapOf w]), WP 12 #[true, true, true, true, true, true, true, true, true, true, true, true, true, true, true, true, true, true, true, true, true, true, true, true, true, true, false, false, false, true, false, false, false, true, true, true, true, true, true, true, true, true, false, false, true, true, true, false, false, false, false] (((((((((A.put (some (15 : Nat)) (.int .i64 (0))).put (some (16 : Nat)) (.pointer (some ⟨bp, op, none⟩))).put (some (17 : Nat)) (.int .i64 (fi))).put (some (26 : Nat)) (.int .i64 (x0))).put (some (28 : Nat)) (.int .i64 (x1))).put (some (29 : Nat)) (.int .i64 (rt))).put (some (31 : Nat)) (.int .i64 (x2))).put (some (32 : Nat)) (.int .u32 (u1))).put (some (33 : Nat)) (.int .u32 (u2))) g.w := by
      as_aux_lemma =>
        intro g
        subst hA
        refine hin.out _ _ _ _ ?_
        (try simp only [Act.put, List.getElem_toArray, List.getElem_cons_zero, List.getElem_cons_succ, List.setIfInBounds_toArray, List.set_cons_zero, List.set_cons_succ])
        have hHeld := True.intro
        refine wpAnyH_ready (rs := [26, 49]) (by kernel_rfl) (by simp) ?_
        refine allReadyH_cons rfl rfl (fun K hK => ?_) (allReadyH_cons rfl rfl (fun K hK => ?_) AllReadyH.nil)
        · go_simp
          go_at_call 19
          (with_reducible refine (C3.out _ ?_).mono ?_); (· exact G.si _ (by simp) hsl.out)
          rintro e w1 ⟨rfl, hb⟩
          clear hHeld
          obtain ⟨g1, rfl⟩ := G.call_ex _ hb
          clear hb
          (try clear g)
          revert g1
          intro g
          refine hK.out _ _ (by (first | exact ⟨(by simp [G.heldN, HeldN, go_sem]), hc0 _ _⟩ | ((simp only [G.drew_eq, G.drewN_eq]); exact ⟨(by simp [G.heldN, HeldN, go_sem]), hc0 _ _⟩))) (fun hHeld => ?_)
          clear hK K
          (try simp only [Act.put, List.getElem_toArray, List.getElem_cons_zero, List.getElem_cons_succ, List.setIfInBounds_toArray, List.set_cons_zero, List.set_cons_succ])
          refine wpAnyH_take (i := 27) (v := ?_) rfl (by kernel_rfl) (by kernel_rfl) (by kernel_rfl) (fun _ _ _ h => h) (Or.inl ⟨by rfl, ?_⟩) (by assumption) ?_
          rotate_left 1
          · (intro w hSw; (try dsimp only at hSw); go_simp; (try with_reducible rfl))
          (try simp only [Act.put, List.getElem_toArray, List.getElem_cons_zero, List.getElem_cons_succ, List.setIfInBounds_toArray, List.set_cons_zero, List.set_cons_succ])
          refine wpAnyH_take (i := 28) (v := ?_) rfl (by kernel_rfl) (by kernel_rfl) (by kernel_rfl) (fun _ _ _ h => h) (Or.inl ⟨by rfl, ?_⟩) (by assumption) ?_
          rotate_left 1
          · (intro w hSw; (try dsimp only at hSw); go_simp; (try with_reducible rfl))
          (try simp only [Act.put, List.getElem_toArray, List.getElem_cons_zero, List.getElem_cons_succ, List.setIfInBounds_toArray, List.set_cons_zero, List.set_cons_succ])
          (try simp only [Act.put, List.getElem_toArray, List.getElem_cons_zero, List.getElem_cons_succ, List.setIfInBounds_toArray, List.set_cons_zero, List.set_cons_succ])
          clear hHeld
          refine hout.out _ _ _ _ (named_conv rfl (by kernel_rfl) (by simp only [Act.put, List.setIfInBounds_toArray, List.set_cons_zero, List.set_cons_succ]) (T5_0.out g))
        · go_simp
          clear hHeld
          refine hK.out _ _ (by (first | exact ⟨(by simp [G.heldN, HeldN, go_sem]), hc0 _ _⟩ | ((simp only [G.drew_eq, G.drewN_eq]); exact ⟨(by simp [G.heldN, HeldN, go_sem]), hc0 _ _⟩))) (fun hHeld => ?_)
          clear hK K
          (try simp only [Act.put, List.getElem_toArray, List.getElem_cons_zero, List.getElem_cons_succ, List.setIfInBounds_toArray, List.set_cons_zero, List.set_cons_succ])
          clear hHeld
          exact hout.out _ _ _ _ (named_conv rfl (by kernel_rfl) (by simp only [Act.put, List.setIfInBounds_toArray, List.set_cons_zero, List.set_cons_succ]) (T4_1.out g.w.heap.size (g.new [.int .i64 0, .int .i64 0, .int .i64 0, .int .u32 0, .int .u32 0, .int .i64 0, .int .i64 0, .slice none 0 0] 30).mark))
    replace T4_0 := Lib.hid T4_0
    have T3_1 : ∀ (qb : Nat) (g : G w [] [(qb, 30, [.int .i64 0, .int .i64 0, .int .i64 0, .int .u32 0, .int .u32 0, .int .i64 0, .int .i64 0, .slice none 0 0]), (bk, 30, [.int .i64 0, .int .i64 0, .int .i64 0, .int .u32 0, .int .u32 0, .int .i64 0, .int .i64 0, .slice none 0 0]), (bz, 26, [.int .i64 5, .int .i64 ov, .int .i64 pb, .int .i64 2, .int .i64 1, .int .i64 1, .int .i64 nz, .slice (some ⟨bp, op, none⟩) n k])] [heapOf w]), WP 14 #[true, true, true, true, true, true, true, true, true, true, true, true, true, true, true, true, true, true, true, true, true, true, false, false, false, true, false, false, false, true, false, false, false, true, true, true, true, true, true, true, true, true, false, false, true, true, true, false, false, true, false] (((((((A.put (some (15 : Nat)) (.int .i64 (0))).put (some (16 : Nat)) (.pointer (some ⟨bp, op, none⟩))).put (some (17 : Nat)) (.int .i64 (fi))).put (some (26 : Nat)) (.int .i64 (x0))).put (some (28 : Nat)) (.int .i64 (x1))).put (some (29 : Nat)) (.int .i64 (rt))).put (some (7 : Nat)) (.pointer (some ⟨qb, 0, none⟩))) g.w := by
      as_aux_lemma =>
        intro qb g
        subst hA
        refine hin.out _ _ _ _ ?_
        (try simp only [Act.put, List.getElem_toArray, List.getElem_cons_zero, List.getElem_cons_succ, List.setIfInBounds_toArray, List.set_cons_zero, List.set_cons_succ])
        have hHeld := True.intro
        refine wpAnyH_ready (rs := [22]) (by kernel_rfl) (by simp) ?_
        refine allReadyH_cons rfl rfl (fun K hK => ?_) AllReadyH.nil
        go_simp
        go_at_call 19
        (with_reducible refine (C2.out _ ?_).mono ?_); (· exact G.si _ (by simp) hsl.out)
        rintro e w1 ⟨rfl, hb⟩
        clear hHeld
        obtain ⟨g1, rfl⟩ := G.call_ex _ hb
        clear hb
        (try clear g)
        revert g1
        intro g
        refine hK.out _ _ (by (first | exact ⟨(by simp [G.heldN, HeldN, go_sem]), hc0 _ _⟩ | ((simp only [G.drew_eq, G.drewN_eq]); exact ⟨(by simp [G.heldN, HeldN, go_sem]), hc0 _ _⟩))) (fun hHeld => ?_)
        clear hK K
        (try simp only [Act.put, List.getElem_toArray, List.getElem_cons_zero, List.getElem_cons_succ, List.setIfInBounds_toArray, List.set_cons_zero, List.set_cons_succ])
        refine wpAnyH_take (i := 23) (v := ?_) rfl (by kernel_rfl) (by kernel_rfl) (by kernel_rfl) (fun _ _ _ h => h) (Or.inl ⟨by rfl, ?_⟩) (by assumption) ?_
        rotate_left 1
        · (intro w hSw; (try dsimp only at hSw); go_simp; (try with_reducible rfl))
        (try simp only [Act.put, List.getElem_toArray, List.getElem_cons_zero, List.getElem_cons_succ, List.setIfInBounds_toArray, List.set_cons_zero, List.set_cons_succ])
        refine wpAnyH_take (i := 24) (v := ?_) rfl (by kernel_rfl) (by kernel_rfl) (by kernel_rfl) (fun _ _ _ h => h) (Or.inl ⟨by rfl, ?_⟩) (by assumption) ?_
        rotate_left 1
        · (intro w hSw; (try dsimp only at hSw); go_simp; (try with_reducible rfl))
        (try simp only [Act.put, List.getElem_toArray, List.getElem_cons_zero, List.getElem_cons_succ, List.setIfInBounds_toArray, List.set_cons_zero, List.set_cons_succ])
        (try simp only [Act.put, List.getElem_toArray, List.getElem_cons_zero, List.getElem_cons_succ, List.setIfInBounds_toArray, List.set_cons_zero, List.set_cons_succ])
        clear hHeld
        refine hout.out _ _ _ _ (named_conv rfl (by kernel_rfl) (by simp only [Act.put, List.setIfInBounds_toArray, List.set_cons_zero, List.set_cons_succ]) (T4_1.out _ g))
    replace T3_1 := Lib.hid T3_1
    have T3_0 : ∀ (g : G w [] [(bk, 30, [.int .i64 0, .int .i64 0, .int .i64 0, .int .u32 0, .int .u32 0, .int .i64 0, .int .i64 0, .slice none 0 0]), (bz, 26, [.int .i64 5, .int .i64 ov, .int .i64 pb, .int .i64 2, .int .i64 1, .int .i64 1, .int .i64 nz, .slice (some ⟨bp, op, none⟩) n k])] [heapOf w]), WP 15 #[true, true, true, true, true, true, true, true, true, true, true, true, true, true, true, true, true, true, true, true, true, true, false, false, false, true, false, false, false, true, false, false, false, true, true, true, true, true, true, true, true, true, false, false, true, true, true, false, false, false, false] ((((((A.put (some (15 : Nat)) (.int .i64 (0))).put (some (16 : Nat)) (.pointer (some ⟨bp, op, none⟩))).put (some (17 : Nat)) (.int .i64 (fi))).put (some (26 : Nat)) (.int .i64 (x0))).put (some (28 : Nat)) (.int .i64 (x1))).put (some (29 : Nat)) (.int .i64 (rt))) g.w := by
      as_aux_lemma =>
        intro g
        subst hA
        refine hin.out _ _ _ _ ?_
        (try simp only [Act.put, List.getElem_toArray, List.getElem_cons_zero, List.getElem_cons_succ, List.setIfInBounds_toArray, List.set_cons_zero, List.set_cons_succ])
        have hHeld := True.intro
        refine wpAnyH_ready (rs := [22, 49]) (by kernel_rfl) (by simp) ?_
        refine allReadyH_cons rfl rfl (fun K hK => ?_) (allReadyH_cons rfl rfl (fun K hK => ?_) AllReadyH.nil)
        · go_simp
          go_at_call 19
          (with_reducible refine (C2.out _ ?_).mono ?_); (· exact G.si _ (by simp) hsl.out)
          rintro e w1 ⟨rfl, hb⟩
          clear hHeld
          obtain ⟨g1, rfl⟩ := G.call_ex _ hb
          clear hb
          (try clear g)
          revert g1
          intro g
          refine hK.out _ _ (by (first | exact ⟨(by simp [G.heldN, HeldN, go_sem]), hc0 _ _⟩ | ((simp only [G.drew_eq, G.drewN_eq]); exact ⟨(by simp [G.heldN, HeldN, go_sem]), hc0 _ _⟩))) (fun hHeld => ?_)
          clear hK K
          (try simp only [Act.put, List.getElem_toArray, List.getElem_cons_zero, List.getElem_cons_succ, List.setIfInBounds_toArray, List.set_cons_zero, List.set_cons_succ])
          refine wpAnyH_take (i := 23) (v := ?_) rfl (by kernel_rfl) (by kernel_rfl) (by kernel_rfl) (fun _ _ _ h => h) (Or.inl ⟨by rfl, ?_⟩) (by assumption) ?_
          rotate_left 1
          · (intro w hSw; (try dsimp only at hSw); go_simp; (try with_reducible rfl))
          (try simp only [Act.put, List.getElem_toArray, List.getElem_cons_zero, List.getElem_cons_succ, List.setIfInBounds_toArray, List.set_cons_zero, List.set_cons_succ])
          refine wpAnyH_take (i := 24) (v := ?_) rfl (by kernel_rfl) (by kernel_rfl) (by kernel_rfl) (fun _ _ _ h => h) (Or.inl ⟨by rfl, ?_⟩) (by assumption) ?_
          rotate_left 1
          · (intro w hSw; (try dsimp only at hSw); go_simp; (try with_reducible rfl))
          (try simp only [Act.put, List.getElem_toArray, List.getElem_cons_zero, List.getElem_cons_succ, List.setIfInBounds_toArray, List.set_cons_zero, List.set_cons_succ])
          (try simp only [Act.put, List.getElem_toArray, List.getElem_cons_zero, List.getElem_cons_succ, List.setIfInBounds_toArray, List.set_cons_zero, List.set_cons_succ])
          clear hHeld
          refine hout.out _ _ _ _ (named_conv rfl (by kernel_rfl) (by simp only [Act.put, List.setIfInBounds_toArray, List.set_cons_zero, List.set_cons_succ]) (T4_0.out g))
        · go_simp
          clear hHeld
          refine hK.out _ _ (by (first | exact ⟨(by simp [G.heldN, HeldN, go_sem]), hc0 _ _⟩ | ((simp only [G.drew_eq, G.drewN_eq]); exact ⟨(by simp [G.heldN, HeldN, go_sem]), hc0 _ _⟩))) (fun hHeld => ?_)
          clear hK K
          (try simp only [Act.put, List.getElem_toArray, List.getElem_cons_zero, List.getElem_cons_succ, List.setIfInBounds_toArray, List.set_cons_zero, List.set_cons_succ])
          clear hHeld
          exact hout.out _ _ _ _ (named_conv rfl (by kernel_rfl) (by simp only [Act.put, List.setIfInBounds_toArray, List.set_cons_zero, List.set_cons_succ]) (T3_1.out g.w.heap.size (g.new [.int .i64 0, .int .i64 0, .int .i64 0, .int .u32 0, .int .u32 0, .int .i64 0, .int .i64 0, .slice none 0 0] 30).mark))
    replace T3_0 := Lib.hid T3_0
    have T2_1 : ∀ (qb : Nat) (g : G w [] [(qb, 30, [.int .i64 0, .int .i64 0, .int .i64 0, .int .u32 0, .int .u32 0, .int .i64 0, .int .i64 0, .slice none 0 0]), (bk, 30, [.int .i64 0, .int .i64 0, .int .i64 0, .int .u32 0, .int .u32 0, .int .i64 0, .int .i64 0, .slice none 0 0]), (bz, 26, [.int .i64 5, .int .i64 ov, .int .i64 pb, .int .i64 2, .int .i64 1, .int .i64 1, .int .i64 nz, .slice (some ⟨bp, op, none⟩) n k])] [heapOf w]), WP 16 #[true, true, true, true, true, true, true, true, true, true, true, true, true, true, true, true, true, true, true, false, false, true, false, false, false, true, false, false, false, true, false, false, false, true, true, true, true, true, true, true, true, true, false, false, true, true, true, false, false, true, false] (((((A.put (some (15 : Nat)) (.int .i64 (0))).put (some (16 : Nat)) (.pointer (some ⟨bp, op, none⟩))).put (some (17 : Nat)) (.int .i64 (fi))).put (some (26 : Nat)) (.int .i64 (x0))).put (some (7 : Nat)) (.pointer (some ⟨qb, 0, none⟩))) g.w := by
      as_aux_lemma =>
        intro qb g
        subst hA
        refine hin.out _ _ _ _ ?_
        (try simp only [Act.put, List.getElem_toArray, List.getElem_cons_zero, List.getElem_cons_succ, List.setIfInBounds_toArray, List.set_cons_zero, List.set_cons_succ])
        have hHeld := True.intro
        refine wpAnyH_ready (rs := [19]) (by kernel_rfl) (by simp) ?_
        refine allReadyH_cons rfl rfl (fun K hK => ?_) AllReadyH.nil
        go_simp
        go_at_call 19
        (with_reducible refine (C1.out _ ?_).mono ?_); (· exact G.si _ (by simp) hsl.out)
        rintro e w1 ⟨rfl, hb⟩
        clear hHeld
        obtain ⟨g1, rfl⟩ := G.call_ex _ hb
        clear hb
        (try clear g)
        revert g1
        intro g
        refine hK.out _ _ (by (first | exact ⟨(by simp [G.heldN, HeldN, go_sem]), hc0 _ _⟩ | ((simp only [G.drew_eq, G.drewN_eq]); exact ⟨(by simp [G.heldN, HeldN, go_sem]), hc0 _ _⟩))) (fun hHeld => ?_)
        clear hK K
        (try simp only [Act.put, List.getElem_toArray, List.getElem_cons_zero, List.getElem_cons_succ, List.setIfInBounds_toArray, List.set_cons_zero, List.set_cons_succ])
        refine wpAnyH_take (i := 20) (v := ?_) rfl (by kernel_rfl) (by kernel_rfl) (by kernel_rfl) (fun _ _ _ h => h) (Or.inl ⟨by rfl, ?_⟩) (by assumption) ?_
        rotate_left 1
        · (intro w hSw; (try dsimp only at hSw); go_simp; (try with_reducible rfl))
        (try simp only [Act.put, List.getElem_toArray, List.getElem_cons_zero, List.getElem_cons_succ, List.setIfInBounds_toArray, List.set_cons_zero, List.set_cons_succ])
        (try simp only [Act.put, List.getElem_toArray, List.getElem_cons_zero, List.getElem_cons_succ, List.setIfInBounds_toArray, List.set_cons_zero, List.set_cons_succ])
        clear hHeld
        refine hout.out _ _ _ _ (named_conv rfl (by kernel_rfl) (by simp only [Act.put, List.setIfInBounds_toArray, List.set_cons_zero, List.set_cons_succ]) (T3_1.out _ g))
    replace T2_1 := Lib.hid T2_1
    have T2_0 : ∀ (g : G w [] [(bk, 30, [.int .i64 0, .int .i64 0, .int .i64 0, .int .u32 0, .int .u32 0, .int .i64 0, .int .i64 0, .slice none 0 0]), (bz, 26, [.int .i64 5, .int .i64 ov, .int .i64 pb, .int .i64 2, .int .i64 1, .int .i64 1, .int .i64 nz, .slice (some ⟨bp, op, none⟩) n k])] [heapOf w]), WP 17 #[true, true, true, true, true, true, true, true, true, true, true, true, true, true, true, true, true, true, true, false, false, true, false, false, false, true, false, false, false, true, false, false, false, true, true, true, true, true, true, true, true, true, false, false, true, true, true, false, false, false, false] ((((A.put (some (15 : Nat)) (.int .i64 (0))).put (some (16 : Nat)) (.pointer (some ⟨bp, op, none⟩))).put (some (17 : Nat)) (.int .i64 (fi))).put (some (26 : Nat)) (.int .i64 (x0))) g.w := by
      as_aux_lemma =>
        intro g
        subst hA
        refine hin.out _ _ _ _ ?_
        (try simp only [Act.put, List.getElem_toArray, List.getElem_cons_zero, List.getElem_cons_succ, List.setIfInBounds_toArray, List.set_cons_zero, List.set_cons_succ])
        have hHeld := True.intro
        refine wpAnyH_ready (rs := [19, 49]) (by kernel_rfl) (by simp) ?_
        refine allReadyH_cons rfl rfl (fun K hK => ?_) (allReadyH_cons rfl rfl (fun K hK => ?_) AllReadyH.nil)
        · go_simp
          go_at_call 19
          (with_reducible refine (C1.out _ ?_).mono ?_); (· exact G.si _ (by simp) hsl.out)
          rintro e w1 ⟨rfl, hb⟩
          clear hHeld
          obtain ⟨g1, rfl⟩ := G.call_ex _ hb
          clear hb
          (try clear g)
          revert g1
          intro g
          refine hK.out _ _ (by (first | exact ⟨(by simp [G.heldN, HeldN, go_sem]), hc0 _ _⟩ | ((simp only [G.drew_eq, G.drewN_eq]); exact ⟨(by simp [G.heldN, HeldN, go_sem]), hc0 _ _⟩))) (fun hHeld => ?_)
          clear hK K
          (try simp only [Act.put, List.getElem_toArray, List.getElem_cons_zero, List.getElem_cons_succ, List.setIfInBounds_toArray, List.set_cons_zero, List.set_cons_succ])
          refine wpAnyH_take (i := 20) (v := ?_) rfl (by kernel_rfl) (by kernel_rfl) (by kernel_rfl) (fun _ _ _ h => h) (Or.inl ⟨by rfl, ?_⟩) (by assumption) ?_
          rotate_left 1
          · (intro w hSw; (try dsimp only at hSw); go_simp; (try with_reducible rfl))
          (try simp only [Act.put, List.getElem_toArray, List.getElem_cons_zero, List.getElem_cons_succ, List.setIfInBounds_toArray, List.set_cons_zero, List.set_cons_succ])
          (try simp only [Act.put, List.getElem_toArray, List.getElem_cons_zero, List.getElem_cons_succ, List.setIfInBounds_toArray, List.set_cons_zero, List.set_cons_succ])
          clear hHeld
          refine hout.out _ _ _ _ (named_conv rfl (by kernel_rfl) (by simp only [Act.put, List.setIfInBounds_toArray, List.set_cons_zero, List.set_cons_succ]) (T3_0.out g))
        · go_simp
          clear hHeld
          refine hK.out _ _ (by (first | exact ⟨(by simp [G.heldN, HeldN, go_sem]), hc0 _ _⟩ | ((simp only [G.drew_eq, G.drewN_eq]); exact ⟨(by simp [G.heldN, HeldN, go_sem]), hc0 _ _⟩))) (fun hHeld => ?_)
          clear hK K
          (try simp only [Act.put, List.getElem_toArray, List.getElem_cons_zero, List.getElem_cons_succ, List.setIfInBounds_toArray, List.set_cons_zero, List.set_cons_succ])
          clear hHeld
          exact hout.out _ _ _ _ (named_conv rfl (by kernel_rfl) (by simp only [Act.put, List.setIfInBounds_toArray, List.set_cons_zero, List.set_cons_succ]) (T2_1.out g.w.heap.size (g.new [.int .i64 0, .int .i64 0, .int .i64 0, .int .u32 0, .int .u32 0, .int .i64 0, .int .i64 0, .slice none 0 0] 30).mark))
    replace T2_0 := Lib.hid T2_0
    have T1_1 : ∀ (qb : Nat) (g : G w [] [(qb, 30, [.int .i64 0, .int .i64 0, .int .i64 0, .int .u32 0, .int .u32 0, .int .i64 0, .int .i64 0, .slice none 0 0]), (bk, 30, [.int .i64 0, .int .i64 0, .int .i64 0, .int .u32 0, .int .u32 0, .int .i64 0, .int .i64 0, .slice none 0 0]), (bz, 26, [.int .i64 5, .int .i64 ov, .int .i64 pb, .int .i64 2, .int .i64 1, .int .i64 1, .int .i64 nz, .slice (some ⟨bp, op, none⟩) n k])] [heapOf w]), WP 17 #[true, true, true, true, true, true, true, true, true, true, true, true, true, true, true, true, true, false, true, false, false, true, false, false, false, true, false, false, false, true, false, false, false, true, true, true, true, true, true, true, true, true, false, false, true, true, true, false, false, true, false] ((((A.put (some (15 : Nat)) (.int .i64 (0))).put (some (16 : Nat)) (.pointer (some ⟨bp, op, none⟩))).put (some (17 : Nat)) (.int .i64 (fi))).put (some (7 : Nat)) (.pointer (some ⟨qb, 0, none⟩))) g.w := by
      as_aux_lemma =>
        intro qb g
        subst hA
        refine hin.out _ _ _ _ ?_
        (try simp only [Act.put, List.getElem_toArray, List.getElem_cons_zero, List.getElem_cons_succ, List.setIfInBounds_toArray, List.set_cons_zero, List.set_cons_succ])
        have hHeld := True.intro
        refine wpAnyH_ready (rs := [17]) (by kernel_rfl) (by simp) ?_
        refine allReadyH_cons rfl rfl (fun K hK => ?_) AllReadyH.nil
        go_simp
        go_at_call 19
        (with_reducible refine (C0.out _ ?_).mono ?_); (· exact G.si _ (by simp) hsl.out)
        rintro e w1 ⟨rfl, hb⟩
        clear hHeld
        obtain ⟨g1, rfl⟩ := G.call_ex _ hb
        clear hb
        (try clear g)
        revert g1
        intro g
        refine hK.out _ _ (by (first | exact ⟨(by simp [G.heldN, HeldN, go_sem]), hc0 _ _⟩ | ((simp only [G.drew_eq, G.drewN_eq]); exact ⟨(by simp [G.heldN, HeldN, go_sem]), hc0 _ _⟩))) (fun hHeld => ?_)
        clear hK K
        (try simp only [Act.put, List.getElem_toArray, List.getElem_cons_zero, List.getElem_cons_succ, List.setIfInBounds_toArray, List.set_cons_zero, List.set_cons_succ])
        (try simp only [Act.put, List.getElem_toArray, List.getElem_cons_zero, List.getElem_cons_succ, List.setIfInBounds_toArray, List.set_cons_zero, List.set_cons_succ])
        clear hHeld
        refine hout.out _ _ _ _ (named_conv rfl (by kernel_rfl) (by simp only [Act.put, List.setIfInBounds_toArray, List.set_cons_zero, List.set_cons_succ]) (T2_1.out _ g))
    replace T1_1 := Lib.hid T1_1
    have T1_0 : ∀ (g : G w [] [(bk, 30, [.int .i64 0, .int .i64 0, .int .i64 0, .int .u32 0, .int .u32 0, .int .i64 0, .int .i64 0, .slice none 0 0]), (bz, 26, [.int .i64 5, .int .i64 ov, .int .i64 pb, .int .i64 2, .int .i64 1, .int .i64 1, .int .i64 nz, .slice (some ⟨bp, op, none⟩) n k])] [heapOf w]), WP 18 #[true, true, true, true, true, true, true, true, true, true, true, true, true, true, true, true, true, false, true, false, false, true, false, false, false, true, false, false, false, true, false, false, false, true, true, true, true, true, true, true, true, true, false, false, true, true, true, false, false, false, false] (((A.put (some (15 : Nat)) (.int .i64 (0))).put (some (16 : Nat)) (.pointer (some ⟨bp, op, none⟩))).put (some (17 : Nat)) (.int .i64 (fi))) g.w := by
      as_aux_lemma =>
        intro g
        subst hA
        refine hin.out _ _ _ _ ?_
        (try simp only [Act.put, List.getElem_toArray, List.getElem_cons_zero, List.getElem_cons_succ, List.setIfInBounds_toArray, List.set_cons_zero, List.set_cons_succ])
        have hHeld := True.intro
        refine wpAnyH_ready (rs := [17, 49]) (by kernel_rfl) (by simp) ?_
        refine allReadyH_cons rfl rfl (fun K hK => ?_) (allReadyH_cons rfl rfl (fun K hK => ?_) AllReadyH.nil)
        · go_simp
          go_at_call 19
          (with_reducible refine (C0.out _ ?_).mono ?_); (· exact G.si _ (by simp) hsl.out)
          rintro e w1 ⟨rfl, hb⟩
          clear hHeld
          obtain ⟨g1, rfl⟩ := G.call_ex _ hb
          clear hb
          (try clear g)
          revert g1
          intro g
          refine hK.out _ _ (by (first | exact ⟨(by simp [G.heldN, HeldN, go_sem]), hc0 _ _⟩ | ((simp only [G.drew_eq, G.drewN_eq]); exact ⟨(by simp [G.heldN, HeldN, go_sem]), hc0 _ _⟩))) (fun hHeld => ?_)
          clear hK K
          (try simp only [Act.put, List.getElem_toArray, List.getElem_cons_zero, List.getElem_cons_succ, List.setIfInBounds_toArray, List.set_cons_zero, List.set_cons_succ])
          (try simp only [Act.put, List.getElem_toArray, List.getElem_cons_zero, List.getElem_cons_succ, List.setIfInBounds_toArray, List.set_cons_zero, List.set_cons_succ])
          clear hHeld
          refine hout.out _ _ _ _ (named_conv rfl (by kernel_rfl) (by simp only [Act.put, List.setIfInBounds_toArray, List.set_cons_zero, List.set_cons_succ]) (T2_0.out g))
        · go_simp
          clear hHeld
          refine hK.out _ _ (by (first | exact ⟨(by simp [G.heldN, HeldN, go_sem]), hc0 _ _⟩ | ((simp only [G.drew_eq, G.drewN_eq]); exact ⟨(by simp [G.heldN, HeldN, go_sem]), hc0 _ _⟩))) (fun hHeld => ?_)
          clear hK K
          (try simp only [Act.put, List.getElem_toArray, List.getElem_cons_zero, List.getElem_cons_succ, List.setIfInBounds_toArray, List.set_cons_zero, List.set_cons_succ])
          clear hHeld
          exact hout.out _ _ _ _ (named_conv rfl (by kernel_rfl) (by simp only [Act.put, List.setIfInBounds_toArray, List.set_cons_zero, List.set_cons_succ]) (T1_1.out g.w.heap.size (g.new [.int .i64 0, .int .i64 0, .int .i64 0, .int .u32 0, .int .u32 0, .int .i64 0, .int .i64 0, .slice none 0 0] 30).mark))
    replace T1_0 := Lib.hid T1_0
    have T0_1 : ∀ (qb : Nat) (g : G w [] [(qb, 30, [.int .i64 0, .int .i64 0, .int .i64 0, .int .u32 0, .int .u32 0, .int .i64 0, .int .i64 0, .slice none 0 0]), (bk, 30, [.int .i64 0, .int .i64 0, .int .i64 0, .int .u32 0, .int .u32 0, .int .i64 0, .int .i64 0, .slice none 0 0]), (bz, 26, [.int .i64 5, .int .i64 ov, .int .i64 pb, .int .i64 2, .int .i64 1, .int .i64 1, .int .i64 nz, .slice (some ⟨bp, op, none⟩) n k])] [heapOf w]), WP 20 #[true, true, true, true, true, true, false, false, false, true, true, true, true, true, true, true, true, false, true, false, false, true, false, false, false, true, false, false, false, true, false, false, false, true, true, true, true, true, true, true, true, true, false, false, true, true, true, false, false, true, false] (A.put (some (7 : Nat)) (.pointer (some ⟨qb, 0, none⟩))) g.w := by
      as_aux_lemma =>
        intro qb g
        subst hA
        refine hin.out _ _ _ _ ?_
        (try simp only [Act.put, List.getElem_toArray, List.getElem_cons_zero, List.getElem_cons_succ, List.setIfInBounds_toArray, List.set_cons_zero, List.set_cons_succ])
        have hHeld := True.intro
        refine wpAnyH_ready (rs := [6]) (by kernel_rfl) (by simp) ?_
        refine allReadyH_cons rfl rfl (fun K hK => ?_) AllReadyH.nil
        go_simp
        go_at_call 5
        (with_reducible refine (CT.out _).mono ?_)
        rintro e w1 ⟨rfl, hb⟩
        clear hHeld
        obtain ⟨g1, rfl⟩ := G.call_ex _ hb
        clear hb
        (try clear g)
        revert g1
        intro g
        refine hK.out _ _ (by (first | exact ⟨(by simp [G.heldN, HeldN, go_sem]), hc0 _ _⟩ | ((simp only [G.drew_eq, G.drewN_eq]); exact ⟨(by simp [G.heldN, HeldN, go_sem]), hc0 _ _⟩))) (fun hHeld => ?_)
        clear hK K
        (try simp only [Act.put, List.getElem_toArray, List.getElem_cons_zero, List.getElem_cons_succ, List.setIfInBounds_toArray, List.set_cons_zero, List.set_cons_succ])
        have hc1 := hc0 _ g
        refine wpAnyH_take (i := 7) (v := ?_) rfl (by kernel_rfl) (by kernel_rfl) (by kernel_rfl) (fun _ _ _ h => h) (Or.inl ⟨by rfl, ?_⟩) (by assumption) ?_
        rotate_left 1
        · (intro w hSw; (try dsimp only at hSw); go_simp; (try with_reducible rfl))
        (try simp only [Act.put, List.getElem_toArray, List.getElem_cons_zero, List.getElem_cons_succ, List.setIfInBounds_toArray, List.set_cons_zero, List.set_cons_succ])
        refine wpAnyH_take (i := 8) (v := ?_) rfl (by kernel_rfl) (by kernel_rfl) (by kernel_rfl) (fun _ _ _ h => h) (Or.inl ⟨by rfl, ?_⟩) (by assumption) ?_
        rotate_left 1
        · (intro w hSw; (try dsimp only at hSw); go_simp; (try with_reducible rfl))
        (try simp only [Act.put, List.getElem_toArray, List.getElem_cons_zero, List.getElem_cons_succ, List.setIfInBounds_toArray, List.set_cons_zero, List.set_cons_succ])
        (try simp only [Act.put, List.getElem_toArray, List.getElem_cons_zero, List.getElem_cons_succ, List.setIfInBounds_toArray, List.set_cons_zero, List.set_cons_succ])
        clear hHeld
        refine hout.out _ _ _ _ (named_conv rfl (by kernel_rfl) (by simp only [Act.put, List.setIfInBounds_toArray, List.set_cons_zero, List.set_cons_succ]) (T1_1.out _ g))
    replace T0_1 := Lib.hid T0_1
    have T0_0 : ∀ (g : G w [] [(bk, 30, [.int .i64 0, .int .i64 0, .int .i64 0, .int .u32 0, .int .u32 0, .int .i64 0, .int .i64 0, .slice none 0 0]), (bz, 26, [.int .i64 5, .int .i64 ov, .int .i64 pb, .int .i64 2, .int .i64 1, .int .i64 1, .int .i64 nz, .slice (some ⟨bp, op, none⟩) n k])] [heapOf w]), WP 21 #[true, true, true, true, true, true, false, false, false, true, true, true, true, true, true, true, true, false, true, false, false, true, false, false, false, true, false, false, false, true, false, false, false, true, true, true, true, true, true, true, true, true, false, false, true, true, true, false, false, false, false] A g.w := by
      as_aux_lemma =>
        intro g
        subst hA
        refine hin.out _ _ _ _ ?_
        (try simp only [Act.put, List.getElem_toArray, List.getElem_cons_zero, List.getElem_cons_succ, List.setIfInBounds_toArray, List.set_cons_zero, List.set_cons_succ])
        have hHeld := True.intro
        refine wpAnyH_ready (rs := [6, 49]) (by kernel_rfl) (by simp) ?_
        refine allReadyH_cons rfl rfl (fun K hK => ?_) (allReadyH_cons rfl rfl (fun K hK => ?_) AllReadyH.nil)
        · go_simp
          go_at_call 5
          (with_reducible refine (CT.out _).mono ?_)
          rintro e w1 ⟨rfl, hb⟩
          clear hHeld
          obtain ⟨g1, rfl⟩ := G.call_ex _ hb
          clear hb
          (try clear g)
          revert g1
          intro g
          refine hK.out _ _ (by (first | exact ⟨(by simp [G.heldN, HeldN, go_sem]), hc0 _ _⟩ | ((simp only [G.drew_eq, G.drewN_eq]); exact ⟨(by simp [G.heldN, HeldN, go_sem]), hc0 _ _⟩))) (fun hHeld => ?_)
          clear hK K
          (try simp only [Act.put, List.getElem_toArray, List.getElem_cons_zero, List.getElem_cons_succ, List.setIfInBounds_toArray, List.set_cons_zero, List.set_cons_succ])
          have hc1 := hc0 _ g
          refine wpAnyH_take (i := 7) (v := ?_) rfl (by kernel_rfl) (by kernel_rfl) (by kernel_rfl) (fun _ _ _ h => h) (Or.inl ⟨by rfl, ?_⟩) (by assumption) ?_
          rotate_left 1
          · (intro w hSw; (try dsimp only at hSw); go_simp; (try with_reducible rfl))
          (try simp only [Act.put, List.getElem_toArray, List.getElem_cons_zero, List.getElem_cons_succ, List.setIfInBounds_toArray, List.set_cons_zero, List.set_cons_succ])
          refine wpAnyH_take (i := 8) (v := ?_) rfl (by kernel_rfl) (by kernel_rfl) (by kernel_rfl) (fun _ _ _ h => h) (Or.inl ⟨by rfl, ?_⟩) (by assumption) ?_
          rotate_left 1
          · (intro w hSw; (try dsimp only at hSw); go_simp; (try with_reducible rfl))
          (try simp only [Act.put, List.getElem_toArray, List.getElem_cons_zero, List.getElem_cons_succ, List.setIfInBounds_toArray, List.set_cons_zero, List.set_cons_succ])
          (try simp only [Act.put, List.getElem_toArray, List.getElem_cons_zero, List.getElem_cons_succ, List.setIfInBounds_toArray, List.set_cons_zero, List.set_cons_succ])
          clear hHeld
          refine hout.out _ _ _ _ (named_conv rfl (by kernel_rfl) (by simp only [Act.put, List.setIfInBounds_toArray, List.set_cons_zero, List.set_cons_succ]) (T1_0.out g))
        · go_simp
          clear hHeld
          refine hK.out _ _ (by (first | exact ⟨(by simp [G.heldN, HeldN, go_sem]), hc0 _ _⟩ | ((simp only [G.drew_eq, G.drewN_eq]); exact ⟨(by simp [G.heldN, HeldN, go_sem]), hc0 _ _⟩))) (fun hHeld => ?_)
          clear hK K
          (try simp only [Act.put, List.getElem_toArray, List.getElem_cons_zero, List.getElem_cons_succ, List.setIfInBounds_toArray, List.set_cons_zero, List.set_cons_succ])
          clear hHeld
          exact hout.out _ _ _ _ (named_conv rfl (by kernel_rfl) (by simp only [Act.put, List.setIfInBounds_toArray, List.set_cons_zero, List.set_cons_succ]) (T0_1.out g.w.heap.size (g.new [.int .i64 0, .int .i64 0, .int .i64 0, .int .u32 0, .int .u32 0, .int .i64 0, .int .i64 0, .slice none 0 0] 30).mark))
    replace T0_0 := Lib.hid T0_0
    exact named_conv rfl (by kernel_rfl) rfl (T0_0.out g)
  case rest =>
  obtain ⟨be, rt, st, g, rfl, rfl⟩ := hcut
  clear C0 C1 C2 C3 C4 C5 C6 CT
  go_wp2_with (with_reducible refine G.any_mark _ ?_; (try generalize Array.size (World.heap (G.w _)) = bk); (try dsimp only [List.set_cons_zero, List.set_cons_succ]); (try clear g); intro g)
  have hsm := hsl.out.max
  have hsc := hsl.out.cap
  have HM := Lib.hid hm
  go_loopg [8] 13 (fun gk s8 wr => ∃ (i : Nat), 7 ≤ i ∧ i + gk = 20 ∧ s8 = .int .i64 (i : Int) ∧ ((∃ g : G w [] [(be, 30, [.int .i64 fi, .int .i64 x0, .int .i64 rt, .int .u32 st, .int .u32 (x4 * 67108864), .int .i64 1, .int .i64 x6, .slice none 0 0]), (bk, 30, [.int .i64 0, .int .i64 0, .int .i64 0, .int .u32 0, .int .u32 0, .int .i64 0, .int .i64 0, .slice none 0 0])] [heapOf w], wr = g.w) ∨ (∃ (b cap n : Nat) (cs xs : List Value), n ≤ 20 ∧ n + 7 ≤ i ∧ Row 3 1 n xs cap cs ∧ ∃ g : G w [] [(b, 3, cs), (be, 30, [.int .i64 fi, .int .i64 x0, .int .i64 rt, .int .u32 st, .int .u32 (x4 * 67108864), .int .i64 1, .int .i64 x6, .slice (some ⟨b, 0, none⟩) n cap]), (bk, 30, [.int .i64 0, .int .i64 0, .int .i64 0, .int .u32 0, .int .u32 0, .int .i64 0, .int .i64 0, .slice none 0 0])] [heapOf w], wr = g.w)))
  case atStart => exact ⟨7, by omega, by omega, rfl, .inl ⟨g, rfl⟩⟩
  case round =>
    clear g
    obtain ⟨kq, rfl⟩ : ∃ kq : Nat, kq = gk := ⟨_, rfl⟩
    obtain ⟨i, hi7, hig, rfl, hcase⟩ := hrel
    by_cases hi2 : i < m
    · have hii : (i : Int) < (m : Int) := by omega
      have hi0 : (0 : Int) ≤ (i : Int) := by omega
      have hi20 : (i : Int) < 20 := by omega
      obtain ⟨bl, ol, rfl, hcel⟩ := ints_cells hsl.out.ints (by omega)
      have hcx0 := hcel i (by omega)
      obtain ⟨x, hx⟩ : ∃ x, l.getD i 0 = x := ⟨_, rfl⟩
      rw [hx] at hcx0
      have hcx : ∀ (M : List Blk) (g : G w [] M [heapOf w]), g.w.cell? ⟨bl, ol + i, none⟩ = some (.int .i64 x) := fun M g => hcx0 _ _ _ _ g (List.mem_singleton.2 rfl)
      have CT2 := Lib.hid (fun w => turn_any x 2 (by decide) (by decide) w)
      clear hcel hcx0
      rcases hcase with ⟨g, rfl⟩ | ⟨b, cap, n, cs, xs, hn20, hn7, hrow, g, rfl⟩
      · have H1 : ∀ u ∈ [Value.int .i64 (x % 2)], u.oneCell' = true := by intro u hu; rw [List.mem_singleton.1 hu]; rfl
        go_wp2_with (with_reducible refine G.any_mark _ ?_; (try generalize Array.size (World.heap (G.w _)) = bk); (try dsimp only [List.set_cons_zero, List.set_cons_succ]); (try clear g); intro g)
        refine wp_region_held_drew (S := fun W => W.cell? ⟨bl, ol + i, none⟩ = some (.int .i64 x)) (by kernel_rfl) (by (first | exact hcx _ _ | ((simp only [G.drew_eq, G.drewN_eq]); exact hcx _ _))) (fun hHeld => ?_)
        refine wpAnyH_take (i := 0) (v := ?_) rfl (by kernel_rfl) (by kernel_rfl) (by kernel_rfl) (fun _ _ _ h => h) (Or.inl ⟨by rfl, ?_⟩) (by assumption) ?_
        rotate_left 1
        · (intro w hSw; (try dsimp only at hSw); go_simp; (try with_reducible rfl))
        (try simp only [Act.put, List.getElem_toArray, List.getElem_cons_zero, List.getElem_cons_succ, List.setIfInBounds_toArray, List.set_cons_zero, List.set_cons_succ])
        refine wpAnyH_take (i := 2) (v := ?_) rfl (by kernel_rfl) (by kernel_rfl) (by kernel_rfl) (fun _ _ _ h => h) (Or.inl ⟨by rfl, ?_⟩) (by assumption) ?_
        rotate_left 1
        · (intro w hSw; (try dsimp only at hSw); go_simp; (try with_reducible rfl))
        (try simp only [Act.put, List.getElem_toArray, List.getElem_cons_zero, List.getElem_cons_succ, List.setIfInBounds_toArray, List.set_cons_zero, List.set_cons_succ])
        refine wpAnyH_take (i := 3) (v := ?_) rfl (by kernel_rfl) (by kernel_rfl) (by kernel_rfl) (fun _ _ _ h => h) (Or.inl ⟨by rfl, ?_⟩) (by assumption) ?_
        rotate_left 1
        · (intro w hSw; (try dsimp only at hSw); go_simp; (try with_reducible rfl))
        (try simp only [Act.put, List.getElem_toArray, List.getElem_cons_zero, List.getElem_cons_succ, List.setIfInBounds_toArray, List.set_cons_zero, List.set_cons_succ])
        refine wpAnyH_take (i := 4) (v := ?_) rfl (by kernel_rfl) (by kernel_rfl) (by kernel_rfl) (fun _ _ _ h => h) (Or.inl ⟨by rfl, ?_⟩) (by assumption) ?_
        rotate_left 1
        · (intro w hSw; (try dsimp only at hSw); go_simp; (try with_reducible rfl))
        (try simp only [Act.put, List.getElem_toArray, List.getElem_cons_zero, List.getElem_cons_succ, List.setIfInBounds_toArray, List.set_cons_zero, List.set_cons_succ])
        refine wpAnyH_take (i := 5) (v := ?_) rfl (by kernel_rfl) (by kernel_rfl) (by kernel_rfl) (fun _ _ _ h => h) (Or.inl ⟨by rfl, ?_⟩) (by assumption) ?_
        rotate_left 1
        · (intro w hSw; (try dsimp only at hSw); go_simp; (try with_reducible rfl))
        (try simp only [Act.put, List.getElem_toArray, List.getElem_cons_zero, List.getElem_cons_succ, List.setIfInBounds_toArray, List.set_cons_zero, List.set_cons_succ])
        (try simp only [Act.put, List.getElem_toArray, List.getElem_cons_zero, List.getElem_cons_succ, List.setIfInBounds_toArray, List.set_cons_zero, List.set_cons_succ])
        refine wpAnyH_ready (rs := [1, 6]) (by kernel_rfl) (by simp) ?_
        refine AllReadyH.cons rfl (fun K hK => ?_) (AllReadyH.cons rfl (fun K hK => ?_) AllReadyH.nil)
        · go_simp
          clear hHeld
          refine hK.out _ _ (by (first | exact hcx _ _ | ((simp only [G.drew_eq, G.drewN_eq]); exact hcx _ _))) (fun hHeld => ?_)
          clear hK K
          (try simp only [Act.put, List.getElem_toArray, List.getElem_cons_zero, List.getElem_cons_succ, List.setIfInBounds_toArray, List.set_cons_zero, List.set_cons_succ])
          refine wpAnyH_ready (rs := [6]) (by kernel_rfl) (by simp) ?_
          refine AllReadyH.cons rfl (fun K hK => ?_) AllReadyH.nil
          go_simp
          go_at_call 5
          (with_reducible refine (CT2.out _).mono ?_)
          rintro e w1 ⟨rfl, hb⟩
          clear hHeld
          obtain ⟨g1, rfl⟩ := G.call_ex _ hb
          clear hb
          (try clear g)
          revert g1
          intro g
          refine hK.out _ _ (by (first | exact hcx _ _ | ((simp only [G.drew_eq, G.drewN_eq]); exact hcx _ _))) (fun hHeld => ?_)
          clear hK K
          (try simp only [Act.put, List.getElem_toArray, List.getElem_cons_zero, List.getElem_cons_succ, List.setIfInBounds_toArray, List.set_cons_zero, List.set_cons_succ])
          refine wpAnyH_ready (rs := [7]) (by kernel_rfl) (by simp) ?_
          refine AllReadyH.cons rfl (fun K hK => ?_) AllReadyH.nil
          go_simp
          clear hHeld
          (refine G.any_mark _ ?_; (try generalize Array.size (World.heap (G.w _)) = bz); (try clear g); intro g)
          refine hK.out _ _ (by (first | exact hcx _ _ | ((simp only [G.drew_eq, G.drewN_eq]); exact hcx _ _))) (fun hHeld => ?_)
          clear hK K
          (try simp only [Act.put, List.getElem_toArray, List.getElem_cons_zero, List.getElem_cons_succ, List.setIfInBounds_toArray, List.set_cons_zero, List.set_cons_succ])
          refine wpAnyH_ready (rs := [8]) (by kernel_rfl) (by simp) ?_
          refine AllReadyH.cons rfl (fun K hK => ?_) AllReadyH.nil
          clear hHeld
          refine step_append_nil rfl _ _ 22 rfl 3 ti0 _ 1 8 Try.underlying22 hi hz0 hz1 hz2 rfl (by decide) g rfl 1 rfl rfl H1 (by decide) (by decide) (by decide) ?_
          clear g
          intro b cap cs g hb hrow
          refine hK.out _ _ (by (first | exact hcx _ _ | ((simp only [G.drew_eq, G.drewN_eq]); exact hcx _ _))) (fun hHeld => ?_)
          clear hK K
          (try simp only [Act.put, List.getElem_toArray, List.getElem_cons_zero, List.getElem_cons_succ, List.setIfInBounds_toArray, List.set_cons_zero, List.set_cons_succ])
          refine wpAnyH_take (i := 9) (v := ?_) rfl (by kernel_rfl) (by kernel_rfl) (by kernel_rfl) (fun _ _ _ h => h) (Or.inl ⟨by rfl, ?_⟩) (by assumption) ?_
          rotate_left 1
          · (intro w hSw; (try dsimp only at hSw); go_simp; (try with_reducible rfl))
          (try simp only [Act.put, List.getElem_toArray, List.getElem_cons_zero, List.getElem_cons_succ, List.setIfInBounds_toArray, List.set_cons_zero, List.set_cons_succ])
          (try simp only [Act.put, List.getElem_toArray, List.getElem_cons_zero, List.getElem_cons_succ, List.setIfInBounds_toArray, List.set_cons_zero, List.set_cons_succ])
          refine wpAnyH_ready (rs := [10]) (by kernel_rfl) (by simp) ?_
          refine AllReadyH.cons rfl (fun K hK => ?_) AllReadyH.nil
          go_simp
          clear hHeld
          refine hK.out _ _ (by (first | exact hcx _ _ | ((simp only [G.drew_eq, G.drewN_eq]); exact hcx _ _))) (fun hHeld => ?_)
          clear hK K
          (try simp only [Act.put, List.getElem_toArray, List.getElem_cons_zero, List.getElem_cons_succ, List.setIfInBounds_toArray, List.set_cons_zero, List.set_cons_succ])
          refine wpAnyH_done (by kernel_rfl) ?_ _
          clear hHeld
          (refine G.any_mark _ ?_; (try dsimp only [List.set_cons_zero, List.set_cons_succ]); (try clear g); intro g)
          go_wp2_with (with_reducible refine G.any_mark _ ?_; (try generalize Array.size (World.heap (G.w _)) = bk); (try dsimp only [List.set_cons_zero, List.set_cons_succ]); (try clear g); intro g)
          go_roundg (kq - 1)
          case measure => omega
          case rel => exact ⟨i + 1, by omega, by omega, by go_num, .inr ⟨b, cap, 1, cs, _, by omega, by omega, by simpa using hrow, g, rfl⟩⟩
        · go_simp
          go_at_call 5
          (with_reducible refine (CT2.out _).mono ?_)
          rintro e w1 ⟨rfl, hb⟩
          clear hHeld
          obtain ⟨g1, rfl⟩ := G.call_ex _ hb
          clear hb
          (try clear g)
          revert g1
          intro g
          refine hK.out _ _ (by (first | exact hcx _ _ | ((simp only [G.drew_eq, G.drewN_eq]); exact hcx _ _))) (fun hHeld => ?_)
          clear hK K
          (try simp only [Act.put, List.getElem_toArray, List.getElem_cons_zero, List.getElem_cons_succ, List.setIfInBounds_toArray, List.set_cons_zero, List.set_cons_succ])
          refine wpAnyH_ready (rs := [1, 7]) (by kernel_rfl) (by simp) ?_
          refine AllReadyH.cons rfl (fun K hK => ?_) (AllReadyH.cons rfl (fun K hK => ?_) AllReadyH.nil)
          · go_simp
            clear hHeld
            refine hK.out _ _ (by (first | exact hcx _ _ | ((simp only [G.drew_eq, G.drewN_eq]); exact hcx _ _))) (fun hHeld => ?_)
            clear hK K
            (try simp only [Act.put, List.getElem_toArray, List.getElem_cons_zero, List.getElem_cons_succ, List.setIfInBounds_toArray, List.set_cons_zero, List.set_cons_succ])
            refine wpAnyH_ready (rs := [7]) (by kernel_rfl) (by simp) ?_
            refine AllReadyH.cons rfl (fun K hK => ?_) AllReadyH.nil
            go_simp
            clear hHeld
            (refine G.any_mark _ ?_; (try generalize Array.size (World.heap (G.w _)) = bz); (try clear g); intro g)
            refine hK.out _ _ (by (first | exact hcx _ _ | ((simp only [G.drew_eq, G.drewN_eq]); exact hcx _ _))) (fun hHeld => ?_)
            clear hK K
            (try simp only [Act.put, List.getElem_toArray, List.getElem_cons_zero, List.getElem_cons_succ, List.setIfInBounds_toArray, List.set_cons_zero, List.set_cons_succ])
            refine wpAnyH_ready (rs := [8]) (by kernel_rfl) (by simp) ?_
            refine AllReadyH.cons rfl (fun K hK => ?_) AllReadyH.nil
            clear hHeld
            refine step_append_nil rfl _ _ 22 rfl 3 ti0 _ 1 8 Try.underlying22 hi hz0 hz1 hz2 rfl (by decide) g rfl 1 rfl rfl H1 (by decide) (by decide) (by decide) ?_
            clear g
            intro b cap cs g hb hrow
            refine hK.out _ _ (by (first | exact hcx _ _ | ((simp only [G.drew_eq, G.drewN_eq]); exact hcx _ _))) (fun hHeld => ?_)
            clear hK K
            (try simp only [Act.put, List.getElem_toArray, List.getElem_cons_zero, List.getElem_cons_succ, List.setIfInBounds_toArray, List.set_cons_zero, List.set_cons_succ])
            refine wpAnyH_take (i := 9) (v := ?_) rfl (by kernel_rfl) (by kernel_rfl) (by kernel_rfl) (fun _ _ _ h => h) (Or.inl ⟨by rfl, ?_⟩) (by assumption) ?_
            rotate_left 1
            · (intro w hSw; (try dsimp only at hSw); go_simp; (try with_reducible rfl))
            (try simp only [Act.put, List.getElem_toArray, List.getElem_cons_zero, List.getElem_cons_succ, List.setIfInBounds_toArray, List.set_cons_zero, List.set_cons_succ])
            (try simp only [Act.put, List.getElem_toArray, List.getElem_cons_zero, List.getElem_cons_succ, List.setIfInBounds_toArray, List.set_cons_zero, List.set_cons_succ])
            refine wpAnyH_ready (rs := [10]) (by kernel_rfl) (by simp) ?_
            refine AllReadyH.cons rfl (fun K hK => ?_) AllReadyH.nil
            go_simp
            clear hHeld
            refine hK.out _ _ (by (first | exact hcx _ _ | ((simp only [G.drew_eq, G.drewN_eq]); exact hcx _ _))) (fun hHeld => ?_)
            clear hK K
            (try simp only [Act.put, List.getElem_toArray, List.getElem_cons_zero, List.getElem_cons_succ, List.setIfInBounds_toArray, List.set_cons_zero, List.set_cons_succ])
            refine wpAnyH_done (by kernel_rfl) ?_ _
            clear hHeld
            (refine G.any_mark _ ?_; (try dsimp only [List.set_cons_zero, List.set_cons_succ]); (try clear g); intro g)
            go_wp2_with (with_reducible refine G.any_mark _ ?_; (try generalize Array.size (World.heap (G.w _)) = bk); (try dsimp only [List.set_cons_zero, List.set_cons_succ]); (try clear g); intro g)
            go_roundg (kq - 1)
            case measure => omega
            case rel => exact ⟨i + 1, by omega, by omega, by go_num, .inr ⟨b, cap, 1, cs, _, by omega, by omega, by simpa using hrow, g, rfl⟩⟩
          · go_simp
            clear hHeld
            (refine G.any_mark _ ?_; (try generalize Array.size (World.heap (G.w _)) = bz); (try clear g); intro g)
            refine hK.out _ _ (by (first | exact hcx _ _ | ((simp only [G.drew_eq, G.drewN_eq]); exact hcx _ _))) (fun hHeld => ?_)
            clear hK K
            (try simp only [Act.put, List.getElem_toArray, List.getElem_cons_zero, List.getElem_cons_succ, List.setIfInBounds_toArray, List.set_cons_zero, List.set_cons_succ])
            refine wpAnyH_ready (rs := [1]) (by kernel_rfl) (by simp) ?_
            refine AllReadyH.cons rfl (fun K hK => ?_) AllReadyH.nil
            go_simp
            clear hHeld
            refine hK.out _ _ (by (first | exact hcx _ _ | ((simp only [G.drew_eq, G.drewN_eq]); exact hcx _ _))) (fun hHeld => ?_)
            clear hK K
            (try simp only [Act.put, List.getElem_toArray, List.getElem_cons_zero, List.getElem_cons_succ, List.setIfInBounds_toArray, List.set_cons_zero, List.set_cons_succ])
            refine wpAnyH_ready (rs := [8]) (by kernel_rfl) (by simp) ?_
            refine AllReadyH.cons rfl (fun K hK => ?_) AllReadyH.nil
            clear hHeld
            refine step_append_nil rfl _ _ 22 rfl 3 ti0 _ 1 8 Try.underlying22 hi hz0 hz1 hz2 rfl (by decide) g rfl 1 rfl rfl H1 (by decide) (by decide) (by decide) ?_
            clear g
            intro b cap cs g hb hrow
            refine hK.out _ _ (by (first | exact hcx _ _ | ((simp only [G.drew_eq, G.drewN_eq]); exact hcx _ _))) (fun hHeld => ?_)
            clear hK K
            (try simp only [Act.put, List.getElem_toArray, List.getElem_cons_zero, List.getElem_cons_succ, List.setIfInBounds_toArray, List.set_cons_zero, List.set_cons_succ])
            refine wpAnyH_take (i := 9) (v := ?_) rfl (by kernel_rfl) (by kernel_rfl) (by kernel_rfl) (fun _ _ _ h => h) (Or.inl ⟨by rfl, ?_⟩) (by assumption) ?_
            rotate_left 1
            · (intro w hSw; (try dsimp only at hSw); go_simp; (try with_reducible rfl))
            (try simp only [Act.put, List.getElem_toArray, List.getElem_cons_zero, List.getElem_cons_succ, List.setIfInBounds_toArray, List.set_cons_zero, List.set_cons_succ])
            (try simp only [Act.put, List.getElem_toArray, List.getElem_cons_zero, List.getElem_cons_succ, List.setIfInBounds_toArray, List.set_cons_zero, List.set_cons_succ])
            refine wpAnyH_ready (rs := [10]) (by kernel_rfl) (by simp) ?_
            refine AllReadyH.cons rfl (fun K hK => ?_) AllReadyH.nil
            go_simp
            clear hHeld
            refine hK.out _ _ (by (first | exact hcx _ _ | ((simp only [G.drew_eq, G.drewN_eq]); exact hcx _ _))) (fun hHeld => ?_)
            clear hK K
            (try simp only [Act.put, List.getElem_toArray, List.getElem_cons_zero, List.getElem_cons_succ, List.setIfInBounds_toArray, List.set_cons_zero, List.set_cons_succ])
            refine wpAnyH_done (by kernel_rfl) ?_ _
            clear hHeld
            (refine G.any_mark _ ?_; (try dsimp only [List.set_cons_zero, List.set_cons_succ]); (try clear g); intro g)
            go_wp2_with (with_reducible refine G.any_mark _ ?_; (try generalize Array.size (World.heap (G.w _)) = bk); (try dsimp only [List.set_cons_zero, List.set_cons_succ]); (try clear g); intro g)
            go_roundg (kq - 1)
            case measure => omega
            case rel => exact ⟨i + 1, by omega, by omega, by go_num, .inr ⟨b, cap, 1, cs, _, by omega, by omega, by simpa using hrow, g, rfl⟩⟩
      · have H1 : ∀ u ∈ [Value.int .i64 (x % 2)], u.oneCell' = true := by intro u hu; rw [List.mem_singleton.1 hu]; rfl
        have H2 : n + 1 ≤ maxLen := by show n + 1 ≤ 9223372036854775807; omega
        have H3 : (n + 1) * 8 ≤ 140737488355328 := by omega
        go_wp2_with (with_reducible refine G.any_mark _ ?_; (try generalize Array.size (World.heap (G.w _)) = bk); (try dsimp only [List.set_cons_zero, List.set_cons_succ]); (try clear g); intro g)
        refine wp_region_held_drew (S := fun W => W.cell? ⟨bl, ol + i, none⟩ = some (.int .i64 x)) (by kernel_rfl) (by (first | exact hcx _ _ | ((simp only [G.drew_eq, G.drewN_eq]); exact hcx _ _))) (fun hHeld => ?_)
        refine wpAnyH_take (i := 0) (v := ?_) rfl (by kernel_rfl) (by kernel_rfl) (by kernel_rfl) (fun _ _ _ h => h) (Or.inl ⟨by rfl, ?_⟩) (by assumption) ?_
        rotate_left 1
        · (intro w hSw; (try dsimp only at hSw); go_simp; (try with_reducible rfl))
        (try simp only [Act.put, List.getElem_toArray, List.getElem_cons_zero, List.getElem_cons_succ, List.setIfInBounds_toArray, List.set_cons_zero, List.set_cons_succ])
        refine wpAnyH_take (i := 2) (v := ?_) rfl (by kernel_rfl) (by kernel_rfl) (by kernel_rfl) (fun _ _ _ h => h) (Or.inl ⟨by rfl, ?_⟩) (by assumption) ?_
        rotate_left 1
        · (intro w hSw; (try dsimp only at hSw); go_simp; (try with_reducible rfl))
        (try simp only [Act.put, List.getElem_toArray, List.getElem_cons_zero, List.getElem_cons_succ, List.setIfInBounds_toArray, List.set_cons_zero, List.set_cons_succ])
        refine wpAnyH_take (i := 3) (v := ?_) rfl (by kernel_rfl) (by kernel_rfl) (by kernel_rfl) (fun _ _ _ h => h) (Or.inl ⟨by rfl, ?_⟩) (by assumption) ?_
        rotate_left 1
        · (intro w hSw; (try dsimp only at hSw); go_simp; (try with_reducible rfl))
        (try simp only [Act.put, List.getElem_toArray, List.getElem_cons_zero, List.getElem_cons_succ, List.setIfInBounds_toArray, List.set_cons_zero, List.set_cons_succ])
        refine wpAnyH_take (i := 4) (v := ?_) rfl (by kernel_rfl) (by kernel_rfl) (by kernel_rfl) (fun _ _ _ h => h) (Or.inl ⟨by rfl, ?_⟩) (by assumption) ?_
        rotate_left 1
        · (intro w hSw; (try dsimp only at hSw); go_simp; (try with_reducible rfl))
        (try simp only [Act.put, List.getElem_toArray, List.getElem_cons_zero, List.getElem_cons_succ, List.setIfInBounds_toArray, List.set_cons_zero, List.set_cons_succ])
        refine wpAnyH_take (i := 5) (v := ?_) rfl (by kernel_rfl) (by kernel_rfl) (by kernel_rfl) (fun _ _ _ h => h) (Or.inl ⟨by rfl, ?_⟩) (by assumption) ?_
        rotate_left 1
        · (intro w hSw; (try dsimp only at hSw); go_simp; (try with_reducible rfl))
        (try simp only [Act.put, List.getElem_toArray, List.getElem_cons_zero, List.getElem_cons_succ, List.setIfInBounds_toArray, List.set_cons_zero, List.set_cons_succ])
        (try simp only [Act.put, List.getElem_toArray, List.getElem_cons_zero, List.getElem_cons_succ, List.setIfInBounds_toArray, List.set_cons_zero, List.set_cons_succ])
        refine wpAnyH_ready (rs := [1, 6]) (by kernel_rfl) (by simp) ?_
        refine AllReadyH.cons rfl (fun K hK => ?_) (AllReadyH.cons rfl (fun K hK => ?_) AllReadyH.nil)
        · go_simp
          clear hHeld
          refine hK.out _ _ (by (first | exact hcx _ _ | ((simp only [G.drew_eq, G.drewN_eq]); exact hcx _ _))) (fun hHeld => ?_)
          clear hK K
          (try simp only [Act.put, List.getElem_toArray, List.getElem_cons_zero, List.getElem_cons_succ, List.setIfInBounds_toArray, List.set_cons_zero, List.set_cons_succ])
          refine wpAnyH_ready (rs := [6]) (by kernel_rfl) (by simp) ?_
          refine AllReadyH.cons rfl (fun K hK => ?_) AllReadyH.nil
          go_simp
          go_at_call 5
          (with_reducible refine (CT2.out _).mono ?_)
          rintro e w1 ⟨rfl, hb⟩
          clear hHeld
          obtain ⟨g1, rfl⟩ := G.call_ex _ hb
          clear hb
          (try clear g)
          revert g1
          intro g
          refine hK.out _ _ (by (first | exact hcx _ _ | ((simp only [G.drew_eq, G.drewN_eq]); exact hcx _ _))) (fun hHeld => ?_)
          clear hK K
          (try simp only [Act.put, List.getElem_toArray, List.getElem_cons_zero, List.getElem_cons_succ, List.setIfInBounds_toArray, List.set_cons_zero, List.set_cons_succ])
          refine wpAnyH_ready (rs := [7]) (by kernel_rfl) (by simp) ?_
          refine AllReadyH.cons rfl (fun K hK => ?_) AllReadyH.nil
          go_simp
          clear hHeld
          (refine G.any_mark _ ?_; (try generalize Array.size (World.heap (G.w _)) = bz); (try clear g); intro g)
          refine hK.out _ _ (by (first | exact hcx _ _ | ((simp only [G.drew_eq, G.drewN_eq]); exact hcx _ _))) (fun hHeld => ?_)
          clear hK K
          (try simp only [Act.put, List.getElem_toArray, List.getElem_cons_zero, List.getElem_cons_succ, List.setIfInBounds_toArray, List.set_cons_zero, List.set_cons_succ])
          refine wpAnyH_ready (rs := [8]) (by kernel_rfl) (by simp) ?_
          refine AllReadyH.cons rfl (fun K hK => ?_) AllReadyH.nil
          clear hHeld
          refine step_append_at rfl _ _ 22 rfl 3 ti0 _ 1 8 Try.underlying22 hi hz0 hz1 hz2 rfl (by decide) g hrow rfl 1 rfl rfl H1 (by decide) H2 H3 ?_
          clear hrow g
          intro b cap cs g hb hrow
          refine hK.out _ _ (by (first | exact hcx _ _ | ((simp only [G.drew_eq, G.drewN_eq]); exact hcx _ _))) (fun hHeld => ?_)
          clear hK K
          (try simp only [Act.put, List.getElem_toArray, List.getElem_cons_zero, List.getElem_cons_succ, List.setIfInBounds_toArray, List.set_cons_zero, List.set_cons_succ])
          refine wpAnyH_take (i := 9) (v := ?_) rfl (by kernel_rfl) (by kernel_rfl) (by kernel_rfl) (fun _ _ _ h => h) (Or.inl ⟨by rfl, ?_⟩) (by assumption) ?_
          rotate_left 1
          · (intro w hSw; (try dsimp only at hSw); go_simp; (try with_reducible rfl))
          (try simp only [Act.put, List.getElem_toArray, List.getElem_cons_zero, List.getElem_cons_succ, List.setIfInBounds_toArray, List.set_cons_zero, List.set_cons_succ])
          (try simp only [Act.put, List.getElem_toArray, List.getElem_cons_zero, List.getElem_cons_succ, List.setIfInBounds_toArray, List.set_cons_zero, List.set_cons_succ])
          refine wpAnyH_ready (rs := [10]) (by kernel_rfl) (by simp) ?_
          refine AllReadyH.cons rfl (fun K hK => ?_) AllReadyH.nil
          go_simp
          clear hHeld
          refine hK.out _ _ (by (first | exact hcx _ _ | ((simp only [G.drew_eq, G.drewN_eq]); exact hcx _ _))) (fun hHeld => ?_)
          clear hK K
          (try simp only [Act.put, List.getElem_toArray, List.getElem_cons_zero, List.getElem_cons_succ, List.setIfInBounds_toArray, List.set_cons_zero, List.set_cons_succ])
          refine wpAnyH_done (by kernel_rfl) ?_ _
          clear hHeld
          (refine G.any_mark _ ?_; (try dsimp only [List.set_cons_zero, List.set_cons_succ]); (try clear g); intro g)
          go_wp2_with (with_reducible refine G.any_mark _ ?_; (try generalize Array.size (World.heap (G.w _)) = bk); (try dsimp only [List.set_cons_zero, List.set_cons_succ]); (try clear g); intro g)
          go_roundg (kq - 1)
          case measure => omega
          case rel => exact ⟨i + 1, by omega, by omega, by go_num, .inr ⟨b, cap, n + 1, cs, _, by omega, by omega, hrow, g, rfl⟩⟩
        · go_simp
          go_at_call 5
          (with_reducible refine (CT2.out _).mono ?_)
          rintro e w1 ⟨rfl, hb⟩
          clear hHeld
          obtain ⟨g1, rfl⟩ := G.call_ex _ hb
          clear hb
          (try clear g)
          revert g1
          intro g
          refine hK.out _ _ (by (first | exact hcx _ _ | ((simp only [G.drew_eq, G.drewN_eq]); exact hcx _ _))) (fun hHeld => ?_)
          clear hK K
          (try simp only [Act.put, List.getElem_toArray, List.getElem_cons_zero, List.getElem_cons_succ, List.setIfInBounds_toArray, List.set_cons_zero, List.set_cons_succ])
          refine wpAnyH_ready (rs := [1, 7]) (by kernel_rfl) (by simp) ?_
          refine AllReadyH.cons rfl (fun K hK => ?_) (AllReadyH.cons rfl (fun K hK => ?_) AllReadyH.nil)
          · go_simp
            clear hHeld
            refine hK.out _ _ (by (first | exact hcx _ _ | ((simp only [G.drew_eq, G.drewN_eq]); exact hcx _ _))) (fun hHeld => ?_)
            clear hK K
            (try simp only [Act.put, List.getElem_toArray, List.getElem_cons_zero, List.getElem_cons_succ, List.setIfInBounds_toArray, List.set_cons_zero, List.set_cons_succ])
            refine wpAnyH_ready (rs := [7]) (by kernel_rfl) (by simp) ?_
            refine AllReadyH.cons rfl (fun K hK => ?_) AllReadyH.nil
            go_simp
            clear hHeld
            (refine G.any_mark _ ?_; (try generalize Array.size (World.heap (G.w _)) = bz); (try clear g); intro g)
            refine hK.out _ _ (by (first | exact hcx _ _ | ((simp only [G.drew_eq, G.drewN_eq]); exact hcx _ _))) (fun hHeld => ?_)
            clear hK K
            (try simp only [Act.put, List.getElem_toArray, List.getElem_cons_zero, List.getElem_cons_succ, List.setIfInBounds_toArray, List.set_cons_zero, List.set_cons_succ])
            refine wpAnyH_ready (rs := [8]) (by kernel_rfl) (by simp) ?_
            refine AllReadyH.cons rfl (fun K hK => ?_) AllReadyH.nil
            clear hHeld
            refine step_append_at rfl _ _ 22 rfl 3 ti0 _ 1 8 Try.underlying22 hi hz0 hz1 hz2 rfl (by decide) g hrow rfl 1 rfl rfl H1 (by decide) H2 H3 ?_
            clear hrow g
            intro b cap cs g hb hrow
            refine hK.out _ _ (by (first | exact hcx _ _ | ((simp only [G.drew_eq, G.drewN_eq]); exact hcx _ _))) (fun hHeld => ?_)
            clear hK K
            (try simp only [Act.put, List.getElem_toArray, List.getElem_cons_zero, List.getElem_cons_succ, List.setIfInBounds_toArray, List.set_cons_zero, List.set_cons_succ])
            refine wpAnyH_take (i := 9) (v := ?_) rfl (by kernel_rfl) (by kernel_rfl) (by kernel_rfl) (fun _ _ _ h => h) (Or.inl ⟨by rfl, ?_⟩) (by assumption) ?_
            rotate_left 1
            · (intro w hSw; (try dsimp only at hSw); go_simp; (try with_reducible rfl))
            (try simp only [Act.put, List.getElem_toArray, List.getElem_cons_zero, List.getElem_cons_succ, List.setIfInBounds_toArray, List.set_cons_zero, List.set_cons_succ])
            (try simp only [Act.put, List.getElem_toArray, List.getElem_cons_zero, List.getElem_cons_succ, List.setIfInBounds_toArray, List.set_cons_zero, List.set_cons_succ])
            refine wpAnyH_ready (rs := [10]) (by kernel_rfl) (by simp) ?_
            refine AllReadyH.cons rfl (fun K hK => ?_) AllReadyH.nil
            go_simp
            clear hHeld
            refine hK.out _ _ (by (first | exact hcx _ _ | ((simp only [G.drew_eq, G.drewN_eq]); exact hcx _ _))) (fun hHeld => ?_)
            clear hK K
            (try simp only [Act.put, List.getElem_toArray, List.getElem_cons_zero, List.getElem_cons_succ, List.setIfInBounds_toArray, List.set_cons_zero, List.set_cons_succ])
            refine wpAnyH_done (by kernel_rfl) ?_ _
            clear hHeld
            (refine G.any_mark _ ?_; (try dsimp only [List.set_cons_zero, List.set_cons_succ]); (try clear g); intro g)
            go_wp2_with (with_reducible refine G.any_mark _ ?_; (try generalize Array.size (World.heap (G.w _)) = bk); (try dsimp only [List.set_cons_zero, List.set_cons_succ]); (try clear g); intro g)
            go_roundg (kq - 1)
            case measure => omega
            case rel => exact ⟨i + 1, by omega, by omega, by go_num, .inr ⟨b, cap, n + 1, cs, _, by omega, by omega, hrow, g, rfl⟩⟩
          · go_simp
            clear hHeld
            (refine G.any_mark _ ?_; (try generalize Array.size (World.heap (G.w _)) = bz); (try clear g); intro g)
            refine hK.out _ _ (by (first | exact hcx _ _ | ((simp only [G.drew_eq, G.drewN_eq]); exact hcx _ _))) (fun hHeld => ?_)
            clear hK K
            (try simp only [Act.put, List.getElem_toArray, List.getElem_cons_zero, List.getElem_cons_succ, List.setIfInBounds_toArray, List.set_cons_zero, List.set_cons_succ])
            refine wpAnyH_ready (rs := [1]) (by kernel_rfl) (by simp) ?_
            refine AllReadyH.cons rfl (fun K hK => ?_) AllReadyH.nil
            go_simp
            clear hHeld
            refine hK.out _ _ (by (first | exact hcx _ _ | ((simp only [G.drew_eq, G.drewN_eq]); exact hcx _ _))) (fun hHeld => ?_)
            clear hK K
            (try simp only [Act.put, List.getElem_toArray, List.getElem_cons_zero, List.getElem_cons_succ, List.setIfInBounds_toArray, List.set_cons_zero, List.set_cons_succ])
            refine wpAnyH_ready (rs := [8]) (by kernel_rfl) (by simp) ?_
            refine AllReadyH.cons rfl (fun K hK => ?_) AllReadyH.nil
            clear hHeld
            refine step_append_at rfl _ _ 22 rfl 3 ti0 _ 1 8 Try.underlying22 hi hz0 hz1 hz2 rfl (by decide) g hrow rfl 1 rfl rfl H1 (by decide) H2 H3 ?_
            clear hrow g
            intro b cap cs g hb hrow
            refine hK.out _ _ (by (first | exact hcx _ _ | ((simp only [G.drew_eq, G.drewN_eq]); exact hcx _ _))) (fun hHeld => ?_)
            clear hK K
            (try simp only [Act.put, List.getElem_toArray, List.getElem_cons_zero, List.getElem_cons_succ, List.setIfInBounds_toArray, List.set_cons_zero, List.set_cons_succ])
            refine wpAnyH_take (i := 9) (v := ?_) rfl (by kernel_rfl) (by kernel_rfl) (by kernel_rfl) (fun _ _ _ h => h) (Or.inl ⟨by rfl, ?_⟩) (by assumption) ?_
            rotate_left 1
            · (intro w hSw; (try dsimp only at hSw); go_simp; (try with_reducible rfl))
            (try simp only [Act.put, List.getElem_toArray, List.getElem_cons_zero, List.getElem_cons_succ, List.setIfInBounds_toArray, List.set_cons_zero, List.set_cons_succ])
            (try simp only [Act.put, List.getElem_toArray, List.getElem_cons_zero, List.getElem_cons_succ, List.setIfInBounds_toArray, List.set_cons_zero, List.set_cons_succ])
            refine wpAnyH_ready (rs := [10]) (by kernel_rfl) (by simp) ?_
            refine AllReadyH.cons rfl (fun K hK => ?_) AllReadyH.nil
            go_simp
            clear hHeld
            refine hK.out _ _ (by (first | exact hcx _ _ | ((simp only [G.drew_eq, G.drewN_eq]); exact hcx _ _))) (fun hHeld => ?_)
            clear hK K
            (try simp only [Act.put, List.getElem_toArray, List.getElem_cons_zero, List.getElem_cons_succ, List.setIfInBounds_toArray, List.set_cons_zero, List.set_cons_succ])
            refine wpAnyH_done (by kernel_rfl) ?_ _
            clear hHeld
            (refine G.any_mark _ ?_; (try dsimp only [List.set_cons_zero, List.set_cons_succ]); (try clear g); intro g)
            go_wp2_with (with_reducible refine G.any_mark _ ?_; (try generalize Array.size (World.heap (G.w _)) = bk); (try dsimp only [List.set_cons_zero, List.set_cons_succ]); (try clear g); intro g)
            go_roundg (kq - 1)
            case measure => omega
            case rel => exact ⟨i + 1, by omega, by omega, by go_num, .inr ⟨b, cap, n + 1, cs, _, by omega, by omega, hrow, g, rfl⟩⟩
    · have hii : ¬ ((i : Int) < (m : Int)) := by omega
      rcases hcase with ⟨g, rfl⟩ | ⟨b, cap, n, cs, xs, hn20, hn7, hrow, g, rfl⟩
      · go_wp2_with (with_reducible refine G.any_mark _ ?_; (try generalize Array.size (World.heap (G.w _)) = bk); (try dsimp only [List.set_cons_zero, List.set_cons_succ]); (try clear g); intro g)
        (first | ((try simp only [G.drew_eq, G.drewN_eq]); (refine G.any_mark _ ?_; (try clear g); intro g)) | skip)
        refine bodyPost_ret (v := emV fi x0 rt st (x4 * 67108864) 1 x6 (.slice none 0 0)) (by simp [results, Try.results7, go_sem]) rfl ⟨⟨rt, st, none, 0, 0, rfl⟩, G.below _⟩
      · go_wp2_with (with_reducible refine G.any_mark _ ?_; (try generalize Array.size (World.heap (G.w _)) = bk); (try dsimp only [List.set_cons_zero, List.set_cons_succ]); (try clear g); intro g)
        (first | ((try simp only [G.drew_eq, G.drewN_eq]); (refine G.any_mark _ ?_; (try clear g); intro g)) | skip)
        refine bodyPost_ret (v := emV fi x0 rt st (x4 * 67108864) 1 x6 (.slice (some ⟨b, 0, none⟩) n cap)) (by simp [results, Try.results7, go_sem]) rfl ⟨⟨rt, st, _, n, cap, rfl⟩, G.below _⟩
end Go.Proofs.Ytcaaecmbbbdopaa
