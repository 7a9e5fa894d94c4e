/- Plain facts and contracts of functions of the program, out of walks. Their conditions stand ahead of each. -/
import Derived.Test.YtcaaecmbbbdopaaDs11
import Derived.Test.YtcaaecmbbbdopaaDs14
import Derived.Test.YtcaaecmbbbdopaaDs15
import Derived.Below
import Derived.BigQuiet
import Derived.Deep.DeepCutAuto
import Derived.Deep.Draws
import Derived.Deep.QuietTactic
import Derived.Deep.RegionHeld
import Derived.Deep.RegionHeld3
import Derived.Deep.WholeRow
import Derived.Great.BuildSlice
import Derived.Laws.Bits128
import Derived.Laws.IdiomCopy
import Derived.Laws.NewBlocks
import Derived.Laws.OwnMore
import Derived.Laws.Pointers
import Derived.Laws.Rows
import Derived.Lib.Hide
import Derived.Maps.AppendAt
import Derived.OrdersHeld
import Derived.RowKit3
import Derived.StillTactics
import Derived.StillTailTactics
import Derived.Test.YtcaaecmbbbdopaaProg
import Derived.WalkKit
import Derived.WalkLawsBesides
import Derived.WalkSpells
set_option linter.unusedVariables false
set_option linter.unusedSimpArgs false
namespace Go.Proofs.Ytcaaecmbbbdopaa
open Go.RowKit GW
theorem G.oldcell {w0 : World} {M : List Blk} {I : List Frag} (g : G w0 [] M I) {a : Addr} {v : Value} (hv : w0.cell? a = some v) : g.w.cell? a = some v :=
  (World.cell?_of_block (g.below.block _ (World.block_lt_of_cell? w0 a hv))).trans hv
theorem copy_nil {i : TypeInfo} (hi : Try.prog.info? 41 = some i) (w : World) (ty : TypeId) (d : Option Addr) (n c : Nat) : (Builtin.copy_ #[36, 36] ty #[.slice d n c, .slice none 0 0]).run Try.prog w = .ok (.int .i64 0) w := by
  have hl : ∀ (x : Addr), (loadCells x 0).run Try.prog w = .ok #[] w := fun x => by simpa using run_loadCells_list (P := Try.prog) w x [] (by simp)
  cases d <;> simp [Builtin.copy_, run_underlying Try.underlying36, Builtin.lenOf, Builtin.firstCells, sizeOf, typeInfo, hi, storeCells, hl, goInt]
theorem infoSam : (Try.prog.info? 41).map (fun i => (i.zero, i.size, i.bytes)) = some (some (.agg #[.int .i64 0, .int .i64 0]), 2, 16) := by kernel_rfl
theorem sps_zeros : ∀ n : Nat, sps (List.replicate n (0, 0)) = List.replicate (n * 2) (.int .i64 0)
  | 0 => rfl
  | n + 1 => by rw [List.replicate_succ, sps_cons, sps_zeros n, show (n + 1) * 2 = n * 2 + 1 + 1 by omega, List.replicate_succ, List.replicate_succ]
theorem madeSam (n : Nat) : madeCells (Value.agg #[.int .i64 0, .int .i64 0]).cells (n * 2) = (sps (List.replicate n (0, 0))).toArray := by
  rw [sps_zeros]
  apply Array.ext
  · simp [madeCells]
  · intro i h1 h2
    have h : ∀ m, m < 2 → (Value.agg #[.int .i64 0, .int .i64 0]).cells[m]! = Value.int .i64 0 := by
      intro m hm
      rcases m with _ | _ | m
      · rfl
      · rfl
      · omega
    simp only [madeCells, Array.getElem_map, Array.getElem_range, List.getElem_toArray, List.getElem_replicate]
    exact h _ (Nat.mod_lt _ (by decide))
theorem make_sam (n : Nat) (hn : n ≤ 100000) (w : World) : (Instr.makeSlice 36 (.int .i64 (n : Int)) (.int .i64 (n : Int))).run Try.prog w = .ok (.slice (some ⟨w.heap.size, 0, none⟩) n n) (w.alloc (.cells (sps (List.replicate n (0, 0))).toArray 41)) := by
  obtain ⟨i0, hi, hz0, hz1, hz2⟩ := info_parts infoSam
  have h := run_make (P := Try.prog) w 36 41 i0 _ Try.underlying36 hi hz0 .i64 .i64 n n (by omega) (by omega) (by rw [hz2]; omega) (by omega)
  rw [hz1] at h
  simp only [Int.toNat_natCast] at h
  rw [h, madeSam]
/-- the samples that are written so far -/
def parS (f : Nat → Int × Int) (many k : Nat) : List (Int × Int) := (List.range k).map f ++ List.replicate (many - k) (0, 0)
theorem parS_len (f : Nat → Int × Int) {many k : Nat} (h : k ≤ many) : (parS f many k).length = many := by simp [parS]; omega
theorem parS_set (f : Nat → Int × Int) {many k : Nat} (h : k < many) : (parS f many k).set k (f k) = parS f many (k + 1) := by
  unfold parS
  rw [List.set_append_right _ _ (by simp), List.length_map, List.length_range, Nat.sub_self, List.range_succ, List.map_append, List.append_assoc]
  congr 1
  obtain ⟨m, hm⟩ : ∃ m, many - k = m + 1 := ⟨many - (k + 1), by omega⟩
  rw [hm, show many - (k + 1) = m by omega, List.replicate_succ, List.set_cons_zero]
  rfl
theorem parS_at (f : Nat → Int × Int) {many k : Nat} (h : k < many) : (parS f many k).getD k (0, 0) = (0, 0) := by
  unfold parS
  rw [List.getD_eq_getElem?_getD, List.getElem?_append_right (by simp), List.length_map, List.length_range, Nat.sub_self]
  obtain ⟨m, hm⟩ : ∃ m, many - k = m + 1 := ⟨many - (k + 1), by omega⟩
  rw [hm, List.replicate_succ]
  rfl
theorem parS_all (f : Nat → Int × Int) (many : Nat) : parS f many many = (List.range many).map f := by simp [parS]
def RMake (f : Nat → Int × Int) (many : Nat) (w : World) (e : Ending) (w' : World) : Prop := ∃ b F, e = .returned (.tuple #[.slice (some ⟨b, 0, none⟩) many many, .int .i64 0]) ∧ F.Sp (some ⟨b, 0, none⟩) many ((List.range many).map f) ∧ New w w' F
set_option maxRecDepth 20000 in
set_option maxHeartbeats 4000000 in
theorem make12_ex (B : Option Addr) (c n ov p many be : Nat) (pb nz dl st ph ba : Int) (o1 : 1 ≤ ov) (o2 : ov ≤ 3) (p1 : 1 ≤ pb) (p2 : pb ≤ 3) (z1 : 0 ≤ nz) (z2 : nz ≤ 100) (n1 : 1 ≤ n) (n3 : n ≤ 3) (f1 : 1 ≤ p) (f2 : p ≤ 20) (d1 : 0 ≤ dl) (d2 : dl < 31 * (ov : Int)) (b1 : 0 ≤ ba) (b2 : ba < pb) (h1 : 0 ≤ ph) (h2 : ph < 4294967296) (hm : many ≤ 5000) (w : World) (hp : SiW w B c (prns (p : Int) n))
    (he : ∀ j v, [Value.int .i64 (p : Int), .int .i64 dl, .int .i64 0, .int .u32 st, .int .u32 ph, .int .i64 1, .int .i64 ba, .slice none 0 0][j]? = some v → w.cell? ⟨be, j, none⟩ = some v) :
    Calls Try.prog 9 #[planV 5 ov pb 1 1 nz (.slice B n c), .slice (some ⟨be, 0, none⟩) 1 1, .slice none 0 0, .int .i64 (many : Int)] w (RMake (fun i => atF p dl ov ph st (i : Int)) many w) := by
  refine calls_b fun g => ?_
  unfold RMake
  have HP := Lib.hid hp
  have CPl := Lib.hid (fun w hp => cplan_ex B c n ov pb nz p o1 o2 p1 p2 z1 z2 n1 n3 (by omega) (by omega) w hp)
  have CCh := Lib.hid (fun w hp => check12_ex B c n ov pb nz p dl st ph ba o1 o2 p1 p2 z1 z2 n1 n3 (by omega) (by omega) d1 d2 b1 b2 w hp)
  have CCo := Lib.hid (fun w => code_ex p f1 (by omega) w)
  unfold RCode at CCo
  have CAt := Lib.hid (fun (k : Nat) (C : Option Addr) (hk : k ≤ 5000) w hc => at_any p ov o1 o2 pb nz p dl st ph ba (k : Int) (.slice B n c) C 31 d1 (by omega) (by omega) (by omega) ⟨h1, h2⟩ w hc)
  have E0 := Lib.hid (he 0 _ rfl); have E1 := Lib.hid (he 1 _ rfl); have E2 := Lib.hid (he 2 _ rfl); have E3 := Lib.hid (he 3 _ rfl)
  have E4 := Lib.hid (he 4 _ rfl); have E5 := Lib.hid (he 5 _ rfl); have E6 := Lib.hid (he 6 _ rfl); have E7 := Lib.hid (he 7 _ rfl)
  have hmk := fun w => make_sam many (by omega) w
  obtain ⟨isam, hisam, _⟩ := info_parts infoSam
  have hcpy := copy_nil hisam
  have m1 : ¬ ((many : Int) < 0) := by omega
  have m2 : ¬ (1048576 < (many : Int)) := by omega
  have HB : Hid (∀ i : Nat, -127 ≤ (atF p dl ov ph st (i : Int)).1 ∧ (atF p dl ov ph st (i : Int)).1 ≤ 127 ∧ -127 ≤ (atF p dl ov ph st (i : Int)).2 ∧ (atF p dl ov ph st (i : Int)).2 ≤ 127) := Lib.hid fun i => by
    unfold atF
    obtain ⟨t1, t2, t3, t4⟩ := ti_small (phF ph st (plF dl ov (i : Int)))
    have hx : xF p dl ov (i : Int) = 1 ∨ xF p dl ov (i : Int) = -1 := cc1 p _
    rcases hx with h | h <;> rw [h] <;> dsimp only <;> omega
  obtain ⟨f, hf⟩ : ∃ f : Nat → Int × Int, (fun i : Nat => atF p dl ov ph st (i : Int)) = f := ⟨_, rfl⟩
  have hfi : ∀ i : Nat, atF p dl ov ph st (i : Int) = f i := fun i => by rw [← hf]
  rw [hf]
  simp only [hfi] at CAt HB
  clear hf hfi
  clear hp he o1 o2 p1 p2 z1 z2 n1 n3 f1 f2 d1 d2 b1 b2 h1 h2
  go_enter Try.func9, Try.ntmps9
  go_wp2_with (with_reducible refine G.any_mark _ ?_; (try generalize Array.size (World.heap (G.w _)) = bk); (try dsimp only [List.set_cons_zero, List.set_cons_succ]); (try clear g); intro g)
  refine (CPl.out _ (G.si g (by simp) HP.out)).mono ?_
  rintro e w1 ⟨rfl, hb⟩
  obtain ⟨g1, rfl⟩ := G.call_ex _ hb
  clear hb
  (try clear g)
  revert g1
  intro g
  go_wp2_with (with_reducible refine G.any_mark _ ?_; (try generalize Array.size (World.heap (G.w _)) = bk); (try dsimp only [List.set_cons_zero, List.set_cons_succ]); (try clear g); intro g)
  obtain ⟨bq, rfl⟩ : ∃ b : Nat, b = bk := ⟨_, rfl⟩
  clear CPl
  go_loopg [11] 1 (fun gk s11 wr => ∃ (k : Nat), k + gk = 1 ∧ s11 = .int .i64 (k : Int) ∧ ∃ g : G w [] [(bq, 26, [.int .i64 5, .int .i64 ov, .int .i64 pb, .int .i64 2, .int .i64 1, .int .i64 1, .int .i64 nz, .slice B n c])] [heapOf w], wr = g.w)
  case atStart => exact ⟨0, by omega, rfl, g, rfl⟩
  case round =>
    clear g
    obtain ⟨kq, rfl⟩ : ∃ kq : Nat, kq = gk := ⟨_, rfl⟩
    obtain ⟨k, hkg, rfl, g, rfl⟩ := hrel
    rcases (show k = 0 ∨ k = 1 by omega) with rfl | rfl
    · have hE0 := fun (M : List Blk) (g : G w [] M [heapOf w]) => G.oldcell g E0.out
      go_wp2_with (with_reducible refine G.any_mark _ ?_; (try generalize Array.size (World.heap (G.w _)) = bk); (try dsimp only [List.set_cons_zero, List.set_cons_succ]); (try clear g); intro g)
      go_cut [12] (fun r12 wx => ∃ g : G w [] [(bq, 26, [.int .i64 5, .int .i64 ov, .int .i64 pb, .int .i64 2, .int .i64 1, .int .i64 1, .int .i64 nz, .slice B n c])] [heapOf w], r12 = .int .i64 0 ∧ wx = g.w)
      case first =>
        go_region_held3 (fun W => G.heldN g [true] W ∧ W.cell? ⟨be, 0, none⟩ = some (.int .i64 (p : Int)) ∧ W.cell? ⟨be, 1, none⟩ = some (.int .i64 dl) ∧ W.cell? ⟨be, 2, none⟩ = some (.int .i64 0) ∧ W.cell? ⟨be, 3, none⟩ = some (.int .u32 st) ∧ W.cell? ⟨be, 4, none⟩ = some (.int .u32 ph) ∧ W.cell? ⟨be, 5, none⟩ = some (.int .i64 1) ∧ W.cell? ⟨be, 6, none⟩ = some (.int .i64 ba) ∧ W.cell? ⟨be, 7, none⟩ = some (.slice none 0 0)) (first | exact ⟨(by simp [G.heldN, HeldN, go_sem]), G.oldcell _ E0.out, G.oldcell _ E1.out, G.oldcell _ E2.out, G.oldcell _ E3.out, G.oldcell _ E4.out, G.oldcell _ E5.out, G.oldcell _ E6.out, G.oldcell _ E7.out⟩ | ((simp only [G.drew_eq, G.drewN_eq]); exact ⟨(by simp [G.heldN, HeldN, go_sem]), G.oldcell _ E0.out, G.oldcell _ E1.out, G.oldcell _ E2.out, G.oldcell _ E3.out, G.oldcell _ E4.out, G.oldcell _ E5.out, G.oldcell _ E6.out, G.oldcell _ E7.out⟩)) (first
          | (go_at_call 23; (with_reducible refine (CCh.out _ ?_).mono ?_); (· exact G.si _ (by simp) HP.out); rintro e w1 ⟨rfl, hb⟩; obtain ⟨g1, rfl⟩ := G.call_ex _ hb; clear hb; (try clear g); revert g1; intro g))
        all_goals (first | ((try simp only [G.drew_eq, G.drewN_eq]); (refine G.any_mark _ ?_; (try clear g); intro g)) | skip)
        all_goals go_wp2_with fail
        all_goals go_meet
        all_goals exact ⟨g, rfl, rfl⟩
      case rest =>
      obtain ⟨g, rfl, rfl⟩ := hcut
      go_wp2_with (with_reducible refine G.any_mark _ ?_; (try generalize Array.size (World.heap (G.w _)) = bk); (try dsimp only [List.set_cons_zero, List.set_cons_succ]); (try clear g); intro g)
      go_loopg [13] 0 (fun gk s13 wr => s13 = .int .i64 0 ∧ ∃ g : G w [] [(bq, 26, [.int .i64 5, .int .i64 ov, .int .i64 pb, .int .i64 2, .int .i64 1, .int .i64 1, .int .i64 nz, .slice B n c])] [heapOf w], wr = g.w)
      case atStart => exact ⟨rfl, g, rfl⟩
      case round =>
        clear g
        obtain ⟨kq2, rfl⟩ : ∃ kq : Nat, kq = gk := ⟨_, rfl⟩
        obtain ⟨rfl, g, rfl⟩ := hrel
        go_wp2_with (with_reducible refine G.any_mark _ ?_; (try generalize Array.size (World.heap (G.w _)) = bk); (try dsimp only [List.set_cons_zero, List.set_cons_succ]); (try clear g); intro g)
        go_roundg (kq - 1)
        case measure => omega
        case rel => exact ⟨1, by omega, by go_num, g, rfl⟩
    · go_wp2_with (with_reducible refine G.any_mark _ ?_; (try generalize Array.size (World.heap (G.w _)) = bk); (try dsimp only [List.set_cons_zero, List.set_cons_succ]); (try clear g); intro g)
      go_loopg [14] 0 (fun gk s14 wr => s14 = .int .i64 0 ∧ ∃ g : G w [] [(bq, 26, [.int .i64 5, .int .i64 ov, .int .i64 pb, .int .i64 2, .int .i64 1, .int .i64 1, .int .i64 nz, .slice B n c])] [heapOf w], wr = g.w)
      case atStart => exact ⟨rfl, g, rfl⟩
      case round =>
        clear g
        obtain ⟨kq2, rfl⟩ : ∃ kq : Nat, kq = gk := ⟨_, rfl⟩
        obtain ⟨rfl, g, rfl⟩ := hrel
        go_wp2_with (with_reducible refine G.any_mark _ ?_; (try generalize Array.size (World.heap (G.w _)) = bk); (try dsimp only [List.set_cons_zero, List.set_cons_succ]); (try clear g); intro g)
        obtain ⟨bo, rfl⟩ : ∃ b : Nat, b = bk := ⟨_, rfl⟩
        go_loopg [16] 1 (fun gk s16 wr => ∃ (k : Nat), k + gk = 1 ∧ s16 = .int .i64 (k : Int) ∧ ((k = 0 ∧ ∃ g : G w [] [(bo, 41, sps (parS f many 0)), (bq, 26, [.int .i64 5, .int .i64 ov, .int .i64 pb, .int .i64 2, .int .i64 1, .int .i64 1, .int .i64 nz, .slice B n c])] [heapOf w], wr = g.w) ∨ (k = 1 ∧ ∃ g : G w [] [(bo, 41, sps (parS f many many)), (bq, 26, [.int .i64 5, .int .i64 ov, .int .i64 pb, .int .i64 2, .int .i64 1, .int .i64 1, .int .i64 nz, .slice B n c])] [heapOf w], wr = g.w)))
        case atStart => exact ⟨0, by omega, rfl, .inl ⟨rfl, g, rfl⟩⟩
        case round =>
          clear g
          obtain ⟨kp, rfl⟩ : ∃ kq : Nat, kq = gk := ⟨_, rfl⟩
          obtain ⟨k, hkg, rfl, ⟨rfl, g, rfl⟩ | ⟨rfl, g, rfl⟩⟩ := hrel
          · go_wp2_with (with_reducible refine G.any_mark _ ?_; (try generalize Array.size (World.heap (G.w _)) = bk); (try dsimp only [List.set_cons_zero, List.set_cons_succ]); (try clear g); intro g)
            go_cut [17] (fun r17 wx => ∃ (bc : Nat) (Fc : Frag) (g : G w [] [(bo, 41, sps (parS f many 0)), (bq, 26, [.int .i64 5, .int .i64 ov, .int .i64 pb, .int .i64 2, .int .i64 1, .int .i64 1, .int .i64 nz, .slice B n c])] [Fc, heapOf w]), r17 = .slice (some ⟨bc, 0, none⟩) 31 31 ∧ Fc.Si (some ⟨bc, 0, none⟩) 31 (codeF p) ∧ wx = g.w)
            case first =>
              go_region_held3 (fun W => G.heldN g [false, true] W ∧ W.cell? ⟨be, 0, none⟩ = some (.int .i64 (p : Int)) ∧ W.cell? ⟨be, 1, none⟩ = some (.int .i64 dl) ∧ W.cell? ⟨be, 2, none⟩ = some (.int .i64 0) ∧ W.cell? ⟨be, 3, none⟩ = some (.int .u32 st) ∧ W.cell? ⟨be, 4, none⟩ = some (.int .u32 ph) ∧ W.cell? ⟨be, 5, none⟩ = some (.int .i64 1) ∧ W.cell? ⟨be, 6, none⟩ = some (.int .i64 ba) ∧ W.cell? ⟨be, 7, none⟩ = some (.slice none 0 0)) (first | exact ⟨(by simp [G.heldN, HeldN, go_sem]), G.oldcell _ E0.out, G.oldcell _ E1.out, G.oldcell _ E2.out, G.oldcell _ E3.out, G.oldcell _ E4.out, G.oldcell _ E5.out, G.oldcell _ E6.out, G.oldcell _ E7.out⟩ | ((simp only [G.drew_eq, G.drewN_eq]); exact ⟨(by simp [G.heldN, HeldN, go_sem]), G.oldcell _ E0.out, G.oldcell _ E1.out, G.oldcell _ E2.out, G.oldcell _ E3.out, G.oldcell _ E4.out, G.oldcell _ E5.out, G.oldcell _ E6.out, G.oldcell _ E7.out⟩)) (first
                | (go_at_call 21; (with_reducible refine (CCo.out _).mono ?_); rintro e w1 ⟨bc, Fc, rfl, hc, hn'⟩; obtain ⟨g1, rfl⟩ := G.new_ex _ hn'; clear hn'; (try clear g); revert g1; intro g))
              all_goals (first | ((try simp only [G.drew_eq, G.drewN_eq]); (refine G.any_mark _ ?_; (try clear g); intro g)) | skip)
              all_goals go_wp2_with fail
              all_goals go_meet
              all_goals exact ⟨bc, Fc, g, rfl, hc, rfl⟩
            case rest =>
            obtain ⟨bc, Fc, g, rfl, hc, rfl⟩ := hcut
            clear CCo
            go_wp2_with (with_reducible refine G.any_mark _ ?_; (try generalize Array.size (World.heap (G.w _)) = bk); (try dsimp only [List.set_cons_zero, List.set_cons_succ]); (try clear g); intro g)
            go_loopg [19] many (fun gk s19 wr => ∃ (k : Nat), k + gk = many ∧ s19 = .int .i64 (k : Int) ∧ ∃ g : G w [] [(bo, 41, sps (parS f many k)), (bq, 26, [.int .i64 5, .int .i64 ov, .int .i64 pb, .int .i64 2, .int .i64 1, .int .i64 1, .int .i64 nz, .slice B n c])] [Fc, heapOf w], wr = g.w)
            case atStart => exact ⟨0, by omega, rfl, g, rfl⟩
            case round =>
              clear g
              obtain ⟨kq, rfl⟩ : ∃ kq : Nat, kq = gk := ⟨_, rfl⟩
              obtain ⟨k, hkg, rfl, g, rfl⟩ := hrel
              by_cases hk : k < many
              · have hki : (k : Int) < (many : Int) := by omega
                have hk0 : (0 : Int) ≤ (k : Int) := by omega
                have hk5 : k ≤ 5000 := by omega
                obtain ⟨v1, v2, v3, v4⟩ := HB.out k
                have hfk : f k = ((f k).1, (f k).2) := rfl
                have hset := sps_set (parS f many k) k (f k) (by rw [parS_len f (by omega)]; exact hk)
                rw [parS_set f hk] at hset
                have hget := sps_get1 (parS f many k) k (by rw [parS_len f (by omega)]; exact hk)
                rw [parS_at f hk] at hget
                obtain ⟨hz1, hz2⟩ := hget
                dsimp only at hz1 hz2
                have CA := Lib.hid (CAt.out k (some ⟨bc, 0, none⟩) hk5)
                generalize (f k).1 = x at *
                generalize (f k).2 = y at *
                have w1 : IntKind.i64.wrap x = x := wrI (by omega) (by omega)
                have w2 : IntKind.i64.wrap y = y := wrI (by omega) (by omega)
                clear v1 v2 v3 v4 hfk
                go_wp2_with (with_reducible refine G.any_mark _ ?_; (try generalize Array.size (World.heap (G.w _)) = bk); (try dsimp only [List.set_cons_zero, List.set_cons_succ]); (try clear g); intro g)
                go_cut [20] (fun r20 wx => ∃ (bs : Nat) (g : G w [] [(bs, 41, [.int .i64 x, .int .i64 y]), (bo, 41, sps (parS f many k)), (bq, 26, [.int .i64 5, .int .i64 ov, .int .i64 pb, .int .i64 2, .int .i64 1, .int .i64 1, .int .i64 nz, .slice B n c])] [Fc, heapOf w]), r20 = .pointer (some ⟨bs, 0, none⟩) ∧ wx = g.w)
                case first =>
                  go_region_held3 (fun W => G.heldN g [false, true] W ∧ W.cell? ⟨be, 0, none⟩ = some (.int .i64 (p : Int)) ∧ W.cell? ⟨be, 1, none⟩ = some (.int .i64 dl) ∧ W.cell? ⟨be, 2, none⟩ = some (.int .i64 0) ∧ W.cell? ⟨be, 3, none⟩ = some (.int .u32 st) ∧ W.cell? ⟨be, 4, none⟩ = some (.int .u32 ph) ∧ W.cell? ⟨be, 5, none⟩ = some (.int .i64 1) ∧ W.cell? ⟨be, 6, none⟩ = some (.int .i64 ba) ∧ W.cell? ⟨be, 7, none⟩ = some (.slice none 0 0)) (first | exact ⟨(by simp [G.heldN, HeldN, go_sem]), G.oldcell _ E0.out, G.oldcell _ E1.out, G.oldcell _ E2.out, G.oldcell _ E3.out, G.oldcell _ E4.out, G.oldcell _ E5.out, G.oldcell _ E6.out, G.oldcell _ E7.out⟩ | ((simp only [G.drew_eq, G.drewN_eq]); exact ⟨(by simp [G.heldN, HeldN, go_sem]), G.oldcell _ E0.out, G.oldcell _ E1.out, G.oldcell _ E2.out, G.oldcell _ E3.out, G.oldcell _ E4.out, G.oldcell _ E5.out, G.oldcell _ E6.out, G.oldcell _ E7.out⟩)) (first
                    | (go_at_call 24; (with_reducible refine (CA.out _ ?_).mono ?_); (· exact G.si _ (by simp) hc); rintro e w1 ⟨rfl, hb⟩; obtain ⟨g1, rfl⟩ := G.call_ex _ hb; clear hb; (try clear g); revert g1; intro g))
                  all_goals (first | ((try simp only [G.drew_eq, G.drewN_eq]); (refine G.any_mark _ ?_; (try clear g); intro g)) | skip)
                  all_goals go_wp2_with fail
                  all_goals go_meet
                  all_goals exact ⟨_, g, rfl, rfl⟩
                case rest =>
                obtain ⟨bs, g, rfl, rfl⟩ := hcut
                clear CA
                go_wp2_with (with_reducible refine G.any_mark _ ?_; (try generalize Array.size (World.heap (G.w _)) = bk); (try dsimp only [List.set_cons_zero, List.set_cons_succ]); (try clear g); intro g)
                go_region_with (fail)
                all_goals (as_aux_lemma =>
                  (first | ((try simp only [G.drew_eq, G.drewN_eq]); (refine G.any_mark _ ?_; (try clear g); intro g)) | skip)
                  go_wp2_with (with_reducible refine G.any_mark _ ?_; (try generalize Array.size (World.heap (G.w _)) = bk); (try dsimp only [List.set_cons_zero, List.set_cons_succ]); (try clear g); intro g)
                  obtain ⟨g2, e2⟩ : ∃ g2 : G w [] [(bs, 41, [.int .i64 x, .int .i64 y]), (bo, 41, sps (parS f many (k + 1))), (bq, 26, [.int .i64 5, .int .i64 ov, .int .i64 pb, .int .i64 2, .int .i64 1, .int .i64 1, .int .i64 nz, .slice B n c])] [Fc, heapOf w], g.w = g2.w := G.as g (by rw [hset])
                  obtain ⟨g3, e3⟩ := G.less g2 (List.sublist_cons_self _ _)
                  go_roundg (kq - 1)
                  case measure => omega
                  case rel => exact ⟨k + 1, by omega, by go_num, g3, e2.trans e3⟩)
              · have hkn : k = many := by omega
                subst hkn
                have hki : ¬ ((k : Int) < (k : Int)) := by omega
                go_wp2_with (with_reducible refine G.any_mark _ ?_; (try generalize Array.size (World.heap (G.w _)) = bk); (try dsimp only [List.set_cons_zero, List.set_cons_succ]); (try clear g); intro g)
                obtain ⟨g3, e3⟩ := G.lessI g (I' := [heapOf w]) (by simp)
                go_roundg (kp - 1)
                case measure => omega
                case rel => exact ⟨1, by omega, by go_num, .inr ⟨rfl, g3, e3⟩⟩
          · go_wp2_with (with_reducible refine G.any_mark _ ?_; (try generalize Array.size (World.heap (G.w _)) = bk); (try dsimp only [List.set_cons_zero, List.set_cons_succ]); (try clear g); intro g)
            go_ret2
            have hS := sp_blk (b := bo) (T := 41) (fr := (0, 0)) (l := parS f many many) (c := many) (by rw [parS_len f (Nat.le_refl _)]; exact Nat.le_refl _) (by omega)
            have hG := g.give (b := bo) (List.mem_cons_self ..)
            have hS2 : (blkF bo (.cells (sps (parS f many many)).toArray 41 (0, 0))).Sp (some ⟨bo, 0, none⟩) many ((List.range many).map f) := by
              rw [← parS_all f many]; exact hS
            first | exact ⟨bo, _, rfl, hS2, hG⟩ | exact ⟨bo, rfl, _, hS2, hG⟩
end Go.Proofs.Ytcaaecmbbbdopaa
namespace Go.Proofs.Ytcaaecmbbbdopaa
open Go.RowKit GW
theorem plF_at (D K i ov : Nat) (h : i < 31 * ov) : plF (D : Int) ov ((D + K * (31 * ov) + i : Nat) : Int) = (K : Int) := by
  unfold plF
  have e : ((D + K * (31 * ov) + i : Nat) : Int) - (D : Int) = (((31 * ov) * K + i : Nat) : Int) := by
    rw [Nat.mul_comm (31 * ov) K]; omega
  rw [e, show (31 * (ov : Int)) = ((31 * ov : Nat) : Int) by omega, ← Int.natCast_ediv, Nat.mul_add_div (by omega), Nat.div_eq_of_lt h, Nat.add_zero]
theorem stF_at (D K ov : Nat) : stF (D : Int) ov (K : Int) = ((D + K * (31 * ov) : Nat) : Int) := by
  unfold stF
  have : ((K * (31 * ov) : Nat) : Int) = (K : Int) * (31 * (ov : Int)) := by rw [Int.natCast_mul, Int.natCast_mul]; rfl
  omega
theorem atF_at (p D K i ov : Nat) (ph st : Int) (h : i < 31 * ov) : atF p (D : Int) ov ph st ((D + K * (31 * ov) + i : Nat) : Int) = (cc p (i / ov) * Ang.ti (phF ph st K), cc p (i / ov) * Ang.tq (phF ph st K)) := by
  unfold atF xF
  rw [plF_at D K i ov h, stF_at]
  have e : ((D + K * (31 * ov) + i : Nat) : Int) - ((D + K * (31 * ov) : Nat) : Int) = (i : Int) := by omega
  rw [e, ← Int.natCast_ediv, Int.toNat_natCast]
def smpS (p : Nat) (dl : Int) (ov : Nat) (ph st : Int) (many : Nat) : List (Int × Int) := (List.range many).map fun i : Nat => atF p dl ov ph st (i : Int)
theorem smpS_len (p : Nat) (dl : Int) (ov : Nat) (ph st : Int) (many : Nat) : (smpS p dl ov ph st many).length = many := by simp [smpS]
theorem smpS_get (p : Nat) (dl : Int) (ov : Nat) (ph st : Int) {many j : Nat} (h : j < many) : (smpS p dl ov ph st many).getD j (0, 0) = atF p dl ov ph st (j : Int) := by
  rw [List.getD_eq_getElem?_getD, smpS, List.getElem?_map, List.getElem?_range h]; rfl
theorem atF_small (p : Nat) (dl : Int) (ov : Nat) (ph st n : Int) : -127 ≤ (atF p dl ov ph st n).1 ∧ (atF p dl ov ph st n).1 ≤ 127 ∧ -127 ≤ (atF p dl ov ph st n).2 ∧ (atF p dl ov ph st n).2 ≤ 127 := by
  unfold atF
  obtain ⟨t1, t2, t3, t4⟩ := ti_small (phF ph st (plF dl ov n))
  have hx : xF p dl ov n = 1 ∨ xF p dl ov n = -1 := cc1 p _
  rcases hx with h | h <;> rw [h] <;> dsimp only <;> omega
theorem smpS_small (p : Nat) (dl : Int) (ov : Nat) (ph st : Int) (many : Nat) : Small (smpS p dl ov ph st many) := by
  intro j
  by_cases h : j < many
  · rw [smpS_get p dl ov ph st h]; exact atF_small _ _ _ _ _ _
  · rw [List.getD_eq_getElem?_getD, List.getElem?_eq_none (by rw [smpS_len]; omega)]; decide
theorem smp_pm (p ov k j : Nat) : (smp p ov k).getD j 0 = 1 ∨ (smp p ov k).getD j 0 = -1 ∨ (smp p ov k).getD j 0 = 0 := by
  by_cases h : j < k
  · rw [smp_get p ov k j h]
    rcases cc1 p (j / ov) with e | e
    · exact .inl e
    · exact .inr (.inl e)
  · rw [List.getD_eq_getElem?_getD, List.getElem?_eq_none (by rw [smp_len]; omega)]; exact .inr (.inr rfl)
theorem cc_sq (p i : Nat) (t : Int) : cc p i * t * cc p i = t := by
  rcases cc1 p i with h | h <;> rw [h] <;> omega
/-- THE SUM OVER A WINDOW is the number of its samples times the entry of its phase -/
theorem sum_at (p D K ov many : Nat) (ph st : Int) (hm : D + K * (31 * ov) + 31 * ov ≤ many) : ∀ i, i ≤ 31 * ov →
    sI (smpS p (D : Int) ov ph st many) (smp p ov (31 * ov)) (D + K * (31 * ov)) i = Ang.ti (phF ph st K) * (i : Int) ∧ sQ (smpS p (D : Int) ov ph st many) (smp p ov (31 * ov)) (D + K * (31 * ov)) i = Ang.tq (phF ph st K) * (i : Int)
  | 0, _ => by simp [sI, sQ]
  | i + 1, h => by
    obtain ⟨h1, h2⟩ := sum_at p D K ov many ph st hm i (by omega)
    rw [sI, sQ, h1, h2, smpS_get _ _ _ _ _ (by omega), atF_at _ _ _ _ _ _ _ (by omega), smp_get _ _ _ _ (by omega)]
    dsimp only
    rw [cc_sq, cc_sq]
    constructor
    · rw [show ((i + 1 : Nat) : Int) = (i : Int) + 1 by omega, Int.mul_add, Int.mul_one]
    · rw [show ((i + 1 : Nat) : Int) = (i : Int) + 1 by omega, Int.mul_add, Int.mul_one]
theorem phF_is (q j K : Int) : phF (q * 67108864) (j * 67108864 % 4294967296) K = (q + j * K) % 64 := by
  unfold phF advF
  have h1 : j * 67108864 % 4294967296 * K % 4294967296 = j * 67108864 * K % 4294967296 := by
    rw [Int.mul_emod, Int.emod_emod_of_dvd _ (Int.dvd_refl _), ← Int.mul_emod]
  have e : (q * 67108864 + j * 67108864 % 4294967296 * K) % 4294967296 = (67108864 * (q + j * K)) % 4294967296 := by
    rw [Int.add_emod (q * 67108864), h1, ← Int.add_emod]
    congr 1
    grind
  rw [e]
  omega
theorem ti_mod (k : Int) : Ang.ti (k % 64) = Ang.ti k ∧ Ang.tq (k % 64) = Ang.tq k := by
  unfold Ang.ti Ang.tq
  rw [Int.emod_emod_of_dvd _ (Int.dvd_refl _)]
  exact ⟨rfl, rfl⟩
theorem rate_law {F j : Int} (h : (F - 64 * j + 2048) % 4096 - 2048 ≤ 16 ∧ -16 ≤ (F - 64 * j + 2048) % 4096 - 2048) : (fullF F - 64 * j + 2048) % 4096 - 2048 ≤ 16 ∧ -16 ≤ (fullF F - 64 * j + 2048) % 4096 - 2048 := by
  unfold fullF
  omega
end Go.Proofs.Ytcaaecmbbbdopaa
