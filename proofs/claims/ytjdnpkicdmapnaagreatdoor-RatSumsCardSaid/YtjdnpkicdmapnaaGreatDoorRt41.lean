/- Plain facts and contracts of functions of the program, out of walks. Their conditions stand ahead of each. -/
import Derived.Test.YtjdnpkicdmapnaaGreatDoorRt3
import Derived.Test.YtjdnpkicdmapnaaGreatDoorRt10
import Derived.Test.YtjdnpkicdmapnaaGreatDoorRt35
import Derived.Test.YtjdnpkicdmapnaaGreatDoorRt40
import Derived.Below
import Derived.BigQuiet
import Derived.Deep.Draws
import Derived.Deep.LoopGhost
import Derived.Deep.QuietTactic
import Derived.Deep.RegionHeld3
import Derived.Deep.RegionLaw
import Derived.Defers
import Derived.Laws.BytesString
import Derived.Laws.Cells
import Derived.Laws.CopyOwn
import Derived.Laws.CopyRow
import Derived.Laws.NewBlocks
import Derived.Laws.OwnMore
import Derived.Laws.Pointers
import Derived.Laws.Rows
import Derived.Lib.BitFns
import Derived.Lib.Hide
import Derived.Lib.ItoaNum
import Derived.Lib.TrailingZeros
import Derived.LoopIn
import Derived.LoopNIn
import Derived.Maps.AppendAt
import Derived.OrdersIn
import Derived.OwnWalk
import Derived.OwnWalkIn
import Derived.RangeFuncBound
import Derived.RangeFuncBox
import Derived.RangeFuncCalls
import Derived.RangeFuncLeaves
import Derived.RangeFuncNested
import Derived.RowKit3
import Derived.Shelf.Abstract
import Derived.Shelf.RegionOpen
import Derived.Shelf.Spec.TrailingZeros
import Derived.StillTactics
import Derived.StillTailTactics
import Derived.TacticsInMore
import Derived.Test.YtjdnpkicdmapnaaGreatDoorProg
import Derived.WalkKit
import Derived.WalkLawsBesides
import Derived.WalkMore
import Derived.WalkSpells
set_option linter.unusedVariables false
set_option linter.unusedSimpArgs false
set_option exponentiation.threshold 10000
namespace Go.Proofs.YtjdnpkicdmapnaaGreatDoor
open Go.RowKit GW NL
theorem infoFr : (Tryz.prog.info? 61).map (fun i => (i.zero, i.size, i.bytes)) = some (some (.agg #[.bool false, .slice none 0 0, .slice none 0 0]), 3, 56) := by kernel_rfl
/-- from cell o on a number lies in block b: its parts -/
structure PtAt (w : World) (b o : Nat) (s : Bool) (A : Option Addr) (n c : Nat) (B : Option Addr) (d k : Nat) : Prop where
  c0 : w.cell? ⟨b, o, none⟩ = some (.bool s)
  c1 : w.cell? ⟨b, o + 1, none⟩ = some (.slice A n c)
  c2 : w.cell? ⟨b, o + 2, none⟩ = some (.slice B d k)
/-- the cells of parts -/
def pts (s : Bool) (A : Option Addr) (n c : Nat) (B : Option Addr) (d k : Nat) : List Value := [.bool s, .slice A n c, .slice B d k]
theorem pts_one (s : Bool) (A : Option Addr) (n c : Nat) (B : Option Addr) (d k : Nat) : ∀ u ∈ [Value.bool s, .slice A n c, .slice B d k], u.oneCell' = true := by
  intro u hu
  simp only [List.mem_cons, List.not_mem_nil, or_false] at hu
  rcases hu with rfl | rfl | rfl <;> rfl
theorem row_at {w0 : World} {X : List Nat} {M : List Blk} {I : List Frag} (g : G w0 X M I) {b n cap : Nat} {T : TypeId} {cs xs : List Value} (hm : (b, T, cs) ∈ M) (h : Row T 3 n xs cap cs) {j : Nat} {v : Value} (hv : xs[j]? = some v) : g.w.cell? ⟨b, j, none⟩ = some v := by
  have hl := (List.getElem?_eq_some_iff.1 hv).1
  have hx := h.xl
  have := g.own _ hm
  simp only at this
  simp only [World.cell?, this]
  rw [← h.take, List.getElem?_take_of_lt (by omega)] at hv
  simpa using hv
set_option maxRecDepth 20000 in
set_option maxHeartbeats 4000000 in
theorem with_neg (lb : Nat) (r : Bool × Nat × Nat × Int) (s1 : Bool) (A1 B1 : Option Addr) (c1 k1 : Nat) (l1 m1 : List Nat) (w : World) (p1 : PtAt w lb 0 s1 A1 l1.length c1 B1 m1.length k1) (h1 : SlW w A1 c1 l1) (j1 : SlW w B1 k1 m1) (hT : Tab w)
    (hf : rchk s1 l1 m1 = 0 → ∀ (w' : World) (bF capF : Nat), 1 ≤ capF → FrAt w' bF 0 s1 A1 l1.length c1 B1 m1.length k1 → SlW w' A1 c1 l1 → SlW w' B1 k1 m1 → Tab w' → Calls Tryz.prog 40 #[.slice (some ⟨bF, 0, none⟩) 1 capF] w' (RPE r w')) :
    Calls Tryz.prog 39 #[.func (.func 40) #[] #[], .slice (some ⟨lb, 0, none⟩) 1 1] w (RPE (if rchk s1 l1 m1 ≠ 0 then (false, 0, 0, rchk s1 l1 m1) else r) w) := by
  refine calls_b fun g => ?_
  have CK1 := Lib.hid (fun w a b t => rcheck s1 A1 B1 c1 k1 l1 m1 w a b t)
  have CO1 := Lib.hid (fun w => of_any s1 A1 B1 c1 k1 l1.length m1.length w)
  have E10 := fun (M : List Blk) (g : G w [] M [heapOf w]) => G.old g (List.mem_cons_self ..) p1.c0
  have E11 := fun (M : List Blk) (g : G w [] M [heapOf w]) => G.old g (List.mem_cons_self ..) p1.c1
  have E12 := fun (M : List Blk) (g : G w [] M [heapOf w]) => G.old g (List.mem_cons_self ..) p1.c2
  have H1 := Lib.hid h1
  have J1 := Lib.hid j1
  obtain ⟨e1, he1⟩ : ∃ e, rchk s1 l1 m1 = e := ⟨_, rfl⟩
  rw [he1] at CK1 hf ⊢
  clear p1 h1 j1 he1
  have HF := Lib.hid hf
  have HT := Lib.hid hT
  obtain ⟨RR, hRR⟩ : ∃ RR, (if e1 ≠ 0 then (false, 0, 0, e1) else r) = RR := ⟨_, rfl⟩
  rw [hRR]
  have HRR := Lib.hid hRR
  clear hf hT hRR
  generalize l1.length = n1 at *
  generalize m1.length = d1 at *
  obtain ⟨i0, hi, hz0, hz1, hz2⟩ := info_parts infoFr
  have HP1 := pts_one s1 A1 n1 c1 B1 d1 k1
  go_enter Tryz.func39, Tryz.ntmps39
  go_wp2_with (with_reducible refine G.any_mark _ ?_; (try generalize Array.size (World.heap (G.w _)) = bk); (try dsimp only [List.set_cons_zero, List.set_cons_succ]); (try clear g); intro g)
  obtain ⟨rb, rfl⟩ : ∃ rb, rb = bk := ⟨_, rfl⟩
  go_loopg [6, 12] 1 (fun gk s6 s12 wr => (gk = 1 ∧ s12 = .int .i64 0 ∧ s6 = .slice none 0 0 ∧ ∃ g : G w [] [(rb, 25, [.bool false, .slice none 0 0, .slice none 0 0])] [heapOf w], wr = g.w) ∨ (gk = 0 ∧ s12 = .int .i64 1 ∧ e1 = 0 ∧ ∃ b cap cs, s6 = .slice (some ⟨b, 0, none⟩) 1 cap ∧ Row 61 3 1 ([Value.bool s1, .slice A1 n1 c1, .slice B1 d1 k1]) cap cs ∧ w.heap.size ≤ b ∧ ∃ g : G w [] [(b, 61, cs), (rb, 25, [.bool false, .slice none 0 0, .slice none 0 0])] [heapOf w], wr = g.w))
  case atStart => exact .inl ⟨rfl, rfl, rfl, g, rfl⟩
  case round =>
    clear g
    rcases hrel with ⟨rfl, rfl, rfl, g, rfl⟩ | ⟨rfl, rfl, rfl, b, cap, cs, rfl, hrow, hbw, g, rfl⟩
    · go_wp2_with (with_reducible refine G.any_mark _ ?_; (try generalize Array.size (World.heap (G.w _)) = bk); (try dsimp only [List.set_cons_zero, List.set_cons_succ]); (try clear g); intro g)
      (try (refine cmark _ ?_; (try dsimp only [List.set_cons_zero, List.set_cons_succ]); (try clear g); intro g))
      refine (CK1.out _ (G.sl g (by simp) H1.out) (G.sl g (by simp) J1.out) (G.tab g HT.out)).mono ?_
      rintro e w1 ⟨rfl, hb⟩
      obtain ⟨g1, rfl⟩ := G.call_ex _ hb
      clear hb
      (try clear g)
      revert g1
      intro g
      by_cases hez : e1 = 0
      · subst hez
        go_wp2_with (with_reducible refine G.any_mark _ ?_; (try generalize Array.size (World.heap (G.w _)) = bk); (try dsimp only [List.set_cons_zero, List.set_cons_succ]); (try clear g); intro g)
        refine (CO1.out _).mono ?_
        rintro e w1 ⟨rfl, hb⟩
        obtain ⟨g1, rfl⟩ := G.call_ex _ hb
        clear hb
        (try clear g)
        revert g1
        intro g
        obtain ⟨g2, hg2⟩ := G.less g (M' := [(rb, 25, [.bool false, .slice none 0 0, .slice none 0 0])]) (by simp)
        rw [hg2]
        clear hg2 g
        revert g2
        intro g
        go_wp2_with (first | (with_reducible refine G.any_mark _ ?_; (try generalize Array.size (World.heap (G.w _)) = bk); (try dsimp only [List.set_cons_zero, List.set_cons_succ]); (try clear g); intro g) | (at_builtin; refine wpList_append_lit0 rfl _ _ 56 rfl 61 i0 _ 3 56 Tryz.underlying56 hi hz0 hz1 hz2 rfl (by decide) g rfl 1 rfl rfl HP1 (by decide) (by decide) (by decide) ?_; clear g; intro b cap cs g hb hrow))
        obtain ⟨g2, hg2⟩ := G.less g (M' := [(b, 61, cs), (rb, 25, [.bool false, .slice none 0 0, .slice none 0 0])]) (by simp)
        go_roundg 0
        case measure => omega
        case rel => exact .inr (⟨by simp, by simp, by simp, b, cap, cs, rfl, hrow, hb, g2, hg2⟩)
      · have hne : ((e1 : Int) == 0) = false := by rw [beq_eq_false_iff_ne]; exact hez
        have hne2 : ((e1 : Int) != 0) = true := by rw [bne, hne]; rfl
        have HEZ := Lib.hid hez
        clear hez
        go_wp2_with (with_reducible refine G.any_mark _ ?_; (try generalize Array.size (World.heap (G.w _)) = bk); (try dsimp only [List.set_cons_zero, List.set_cons_succ]); (try clear g); intro g)
        refine bodyPost_ret (v := .tuple #[.agg #[.bool false, .slice none 0 0, .slice none 0 0], .int .i64 e1]) (by simp [results, Tryz.results39, go_sem]) rfl ?_
        rw [← HRR.out, if_pos HEZ.out]
        exact rpe_err _ _
    · go_wp2_with (with_reducible refine G.any_mark _ ?_; (try generalize Array.size (World.heap (G.w _)) = bk); (try dsimp only [List.set_cons_zero, List.set_cons_succ]); (try clear g); intro g)
      refine (HF.out (by simp) _ b cap hrow.le ⟨row_at g (List.mem_cons_self ..) hrow (j := 0) rfl, row_at g (List.mem_cons_self ..) hrow (j := 1) rfl, row_at g (List.mem_cons_self ..) hrow (j := 2) rfl⟩ (G.sl g (by simp) H1.out) (G.sl g (by simp) J1.out) (G.tab g HT.out)).mono ?_
      rintro e w1 ⟨Z1, z1, R1, Z2, z2, R2, rfl, hz1, hz2, hn1, hn2⟩
      have ho1 := fun k o hk => Nat.le_trans (G.chg _).size (hn1.new k o hk)
      have ho2 := fun k o hk => Nat.le_trans (G.chg _).size (hn2.new k o hk)
      obtain ⟨g1, rfl⟩ := G.new2_ex _ hn1 hn2
      clear hn1 hn2
      (try clear g)
      revert g1
      intro g
      go_wp2_with (with_reducible refine G.any_mark _ ?_; (try generalize Array.size (World.heap (G.w _)) = bk); (try dsimp only [List.set_cons_zero, List.set_cons_succ]); (try clear g); intro g)
      refine bodyPost_ret (v := .tuple #[.agg #[.bool r.1, .slice Z1 (limbs r.2.1).length z1, .slice Z2 (limbs r.2.2.1).length z2], .int .i64 r.2.2.2]) (by simp [results, Tryz.results39, go_sem]) rfl ?_
      rw [← HRR.out, if_neg (by decide)]
      exact ⟨Z1, z1, R1, Z2, z2, R2, rfl, hz1, hz2, G.pass _ (by simp) ho1, G.pass _ (by simp) ho2⟩
set_option maxRecDepth 20000 in
set_option maxHeartbeats 4000000 in
theorem with_floor (lb : Nat) (r : Bool × Nat × Nat × Int) (s1 : Bool) (A1 B1 : Option Addr) (c1 k1 : Nat) (l1 m1 : List Nat) (w : World) (p1 : PtAt w lb 0 s1 A1 l1.length c1 B1 m1.length k1) (h1 : SlW w A1 c1 l1) (j1 : SlW w B1 k1 m1) (hT : Tab w)
    (hf : rchk s1 l1 m1 = 0 → ∀ (w' : World) (bF capF : Nat), 1 ≤ capF → FrAt w' bF 0 s1 A1 l1.length c1 B1 m1.length k1 → SlW w' A1 c1 l1 → SlW w' B1 k1 m1 → Tab w' → Calls Tryz.prog 78 #[.slice (some ⟨bF, 0, none⟩) 1 capF] w' (RPE r w')) :
    Calls Tryz.prog 39 #[.func (.func 78) #[] #[], .slice (some ⟨lb, 0, none⟩) 1 1] w (RPE (if rchk s1 l1 m1 ≠ 0 then (false, 0, 0, rchk s1 l1 m1) else r) w) := by
  refine calls_b fun g => ?_
  have CK1 := Lib.hid (fun w a b t => rcheck s1 A1 B1 c1 k1 l1 m1 w a b t)
  have CO1 := Lib.hid (fun w => of_any s1 A1 B1 c1 k1 l1.length m1.length w)
  have E10 := fun (M : List Blk) (g : G w [] M [heapOf w]) => G.old g (List.mem_cons_self ..) p1.c0
  have E11 := fun (M : List Blk) (g : G w [] M [heapOf w]) => G.old g (List.mem_cons_self ..) p1.c1
  have E12 := fun (M : List Blk) (g : G w [] M [heapOf w]) => G.old g (List.mem_cons_self ..) p1.c2
  have H1 := Lib.hid h1
  have J1 := Lib.hid j1
  obtain ⟨e1, he1⟩ : ∃ e, rchk s1 l1 m1 = e := ⟨_, rfl⟩
  rw [he1] at CK1 hf ⊢
  clear p1 h1 j1 he1
  have HF := Lib.hid hf
  have HT := Lib.hid hT
  obtain ⟨RR, hRR⟩ : ∃ RR, (if e1 ≠ 0 then (false, 0, 0, e1) else r) = RR := ⟨_, rfl⟩
  rw [hRR]
  have HRR := Lib.hid hRR
  clear hf hT hRR
  generalize l1.length = n1 at *
  generalize m1.length = d1 at *
  obtain ⟨i0, hi, hz0, hz1, hz2⟩ := info_parts infoFr
  have HP1 := pts_one s1 A1 n1 c1 B1 d1 k1
  go_enter Tryz.func39, Tryz.ntmps39
  go_wp2_with (with_reducible refine G.any_mark _ ?_; (try generalize Array.size (World.heap (G.w _)) = bk); (try dsimp only [List.set_cons_zero, List.set_cons_succ]); (try clear g); intro g)
  obtain ⟨rb, rfl⟩ : ∃ rb, rb = bk := ⟨_, rfl⟩
  go_loopg [6, 12] 1 (fun gk s6 s12 wr => (gk = 1 ∧ s12 = .int .i64 0 ∧ s6 = .slice none 0 0 ∧ ∃ g : G w [] [(rb, 25, [.bool false, .slice none 0 0, .slice none 0 0])] [heapOf w], wr = g.w) ∨ (gk = 0 ∧ s12 = .int .i64 1 ∧ e1 = 0 ∧ ∃ b cap cs, s6 = .slice (some ⟨b, 0, none⟩) 1 cap ∧ Row 61 3 1 ([Value.bool s1, .slice A1 n1 c1, .slice B1 d1 k1]) cap cs ∧ w.heap.size ≤ b ∧ ∃ g : G w [] [(b, 61, cs), (rb, 25, [.bool false, .slice none 0 0, .slice none 0 0])] [heapOf w], wr = g.w))
  case atStart => exact .inl ⟨rfl, rfl, rfl, g, rfl⟩
  case round =>
    clear g
    rcases hrel with ⟨rfl, rfl, rfl, g, rfl⟩ | ⟨rfl, rfl, rfl, b, cap, cs, rfl, hrow, hbw, g, rfl⟩
    · go_wp2_with (with_reducible refine G.any_mark _ ?_; (try generalize Array.size (World.heap (G.w _)) = bk); (try dsimp only [List.set_cons_zero, List.set_cons_succ]); (try clear g); intro g)
      (try (refine cmark _ ?_; (try dsimp only [List.set_cons_zero, List.set_cons_succ]); (try clear g); intro g))
      refine (CK1.out _ (G.sl g (by simp) H1.out) (G.sl g (by simp) J1.out) (G.tab g HT.out)).mono ?_
      rintro e w1 ⟨rfl, hb⟩
      obtain ⟨g1, rfl⟩ := G.call_ex _ hb
      clear hb
      (try clear g)
      revert g1
      intro g
      by_cases hez : e1 = 0
      · subst hez
        go_wp2_with (with_reducible refine G.any_mark _ ?_; (try generalize Array.size (World.heap (G.w _)) = bk); (try dsimp only [List.set_cons_zero, List.set_cons_succ]); (try clear g); intro g)
        refine (CO1.out _).mono ?_
        rintro e w1 ⟨rfl, hb⟩
        obtain ⟨g1, rfl⟩ := G.call_ex _ hb
        clear hb
        (try clear g)
        revert g1
        intro g
        obtain ⟨g2, hg2⟩ := G.less g (M' := [(rb, 25, [.bool false, .slice none 0 0, .slice none 0 0])]) (by simp)
        rw [hg2]
        clear hg2 g
        revert g2
        intro g
        go_wp2_with (first | (with_reducible refine G.any_mark _ ?_; (try generalize Array.size (World.heap (G.w _)) = bk); (try dsimp only [List.set_cons_zero, List.set_cons_succ]); (try clear g); intro g) | (at_builtin; refine wpList_append_lit0 rfl _ _ 56 rfl 61 i0 _ 3 56 Tryz.underlying56 hi hz0 hz1 hz2 rfl (by decide) g rfl 1 rfl rfl HP1 (by decide) (by decide) (by decide) ?_; clear g; intro b cap cs g hb hrow))
        obtain ⟨g2, hg2⟩ := G.less g (M' := [(b, 61, cs), (rb, 25, [.bool false, .slice none 0 0, .slice none 0 0])]) (by simp)
        go_roundg 0
        case measure => omega
        case rel => exact .inr (⟨by simp, by simp, by simp, b, cap, cs, rfl, hrow, hb, g2, hg2⟩)
      · have hne : ((e1 : Int) == 0) = false := by rw [beq_eq_false_iff_ne]; exact hez
        have hne2 : ((e1 : Int) != 0) = true := by rw [bne, hne]; rfl
        have HEZ := Lib.hid hez
        clear hez
        go_wp2_with (with_reducible refine G.any_mark _ ?_; (try generalize Array.size (World.heap (G.w _)) = bk); (try dsimp only [List.set_cons_zero, List.set_cons_succ]); (try clear g); intro g)
        refine bodyPost_ret (v := .tuple #[.agg #[.bool false, .slice none 0 0, .slice none 0 0], .int .i64 e1]) (by simp [results, Tryz.results39, go_sem]) rfl ?_
        rw [← HRR.out, if_pos HEZ.out]
        exact rpe_err _ _
    · go_wp2_with (with_reducible refine G.any_mark _ ?_; (try generalize Array.size (World.heap (G.w _)) = bk); (try dsimp only [List.set_cons_zero, List.set_cons_succ]); (try clear g); intro g)
      refine (HF.out (by simp) _ b cap hrow.le ⟨row_at g (List.mem_cons_self ..) hrow (j := 0) rfl, row_at g (List.mem_cons_self ..) hrow (j := 1) rfl, row_at g (List.mem_cons_self ..) hrow (j := 2) rfl⟩ (G.sl g (by simp) H1.out) (G.sl g (by simp) J1.out) (G.tab g HT.out)).mono ?_
      rintro e w1 ⟨Z1, z1, R1, Z2, z2, R2, rfl, hz1, hz2, hn1, hn2⟩
      have ho1 := fun k o hk => Nat.le_trans (G.chg _).size (hn1.new k o hk)
      have ho2 := fun k o hk => Nat.le_trans (G.chg _).size (hn2.new k o hk)
      obtain ⟨g1, rfl⟩ := G.new2_ex _ hn1 hn2
      clear hn1 hn2
      (try clear g)
      revert g1
      intro g
      go_wp2_with (with_reducible refine G.any_mark _ ?_; (try generalize Array.size (World.heap (G.w _)) = bk); (try dsimp only [List.set_cons_zero, List.set_cons_succ]); (try clear g); intro g)
      refine bodyPost_ret (v := .tuple #[.agg #[.bool r.1, .slice Z1 (limbs r.2.1).length z1, .slice Z2 (limbs r.2.2.1).length z2], .int .i64 r.2.2.2]) (by simp [results, Tryz.results39, go_sem]) rfl ?_
      rw [← HRR.out, if_neg (by decide)]
      exact ⟨Z1, z1, R1, Z2, z2, R2, rfl, hz1, hz2, G.pass _ (by simp) ho1, G.pass _ (by simp) ho2⟩
set_option maxRecDepth 20000 in
set_option maxHeartbeats 4000000 in
theorem with_round (lb : Nat) (r : Bool × Nat × Nat × Int) (s1 : Bool) (A1 B1 : Option Addr) (c1 k1 : Nat) (l1 m1 : List Nat) (w : World) (p1 : PtAt w lb 0 s1 A1 l1.length c1 B1 m1.length k1) (h1 : SlW w A1 c1 l1) (j1 : SlW w B1 k1 m1) (hT : Tab w)
    (hf : rchk s1 l1 m1 = 0 → ∀ (w' : World) (bF capF : Nat), 1 ≤ capF → FrAt w' bF 0 s1 A1 l1.length c1 B1 m1.length k1 → SlW w' A1 c1 l1 → SlW w' B1 k1 m1 → Tab w' → Calls Tryz.prog 80 #[.slice (some ⟨bF, 0, none⟩) 1 capF] w' (RPE r w')) :
    Calls Tryz.prog 39 #[.func (.func 80) #[] #[], .slice (some ⟨lb, 0, none⟩) 1 1] w (RPE (if rchk s1 l1 m1 ≠ 0 then (false, 0, 0, rchk s1 l1 m1) else r) w) := by
  refine calls_b fun g => ?_
  have CK1 := Lib.hid (fun w a b t => rcheck s1 A1 B1 c1 k1 l1 m1 w a b t)
  have CO1 := Lib.hid (fun w => of_any s1 A1 B1 c1 k1 l1.length m1.length w)
  have E10 := fun (M : List Blk) (g : G w [] M [heapOf w]) => G.old g (List.mem_cons_self ..) p1.c0
  have E11 := fun (M : List Blk) (g : G w [] M [heapOf w]) => G.old g (List.mem_cons_self ..) p1.c1
  have E12 := fun (M : List Blk) (g : G w [] M [heapOf w]) => G.old g (List.mem_cons_self ..) p1.c2
  have H1 := Lib.hid h1
  have J1 := Lib.hid j1
  obtain ⟨e1, he1⟩ : ∃ e, rchk s1 l1 m1 = e := ⟨_, rfl⟩
  rw [he1] at CK1 hf ⊢
  clear p1 h1 j1 he1
  have HF := Lib.hid hf
  have HT := Lib.hid hT
  obtain ⟨RR, hRR⟩ : ∃ RR, (if e1 ≠ 0 then (false, 0, 0, e1) else r) = RR := ⟨_, rfl⟩
  rw [hRR]
  have HRR := Lib.hid hRR
  clear hf hT hRR
  generalize l1.length = n1 at *
  generalize m1.length = d1 at *
  obtain ⟨i0, hi, hz0, hz1, hz2⟩ := info_parts infoFr
  have HP1 := pts_one s1 A1 n1 c1 B1 d1 k1
  go_enter Tryz.func39, Tryz.ntmps39
  go_wp2_with (with_reducible refine G.any_mark _ ?_; (try generalize Array.size (World.heap (G.w _)) = bk); (try dsimp only [List.set_cons_zero, List.set_cons_succ]); (try clear g); intro g)
  obtain ⟨rb, rfl⟩ : ∃ rb, rb = bk := ⟨_, rfl⟩
  go_loopg [6, 12] 1 (fun gk s6 s12 wr => (gk = 1 ∧ s12 = .int .i64 0 ∧ s6 = .slice none 0 0 ∧ ∃ g : G w [] [(rb, 25, [.bool false, .slice none 0 0, .slice none 0 0])] [heapOf w], wr = g.w) ∨ (gk = 0 ∧ s12 = .int .i64 1 ∧ e1 = 0 ∧ ∃ b cap cs, s6 = .slice (some ⟨b, 0, none⟩) 1 cap ∧ Row 61 3 1 ([Value.bool s1, .slice A1 n1 c1, .slice B1 d1 k1]) cap cs ∧ w.heap.size ≤ b ∧ ∃ g : G w [] [(b, 61, cs), (rb, 25, [.bool false, .slice none 0 0, .slice none 0 0])] [heapOf w], wr = g.w))
  case atStart => exact .inl ⟨rfl, rfl, rfl, g, rfl⟩
  case round =>
    clear g
    rcases hrel with ⟨rfl, rfl, rfl, g, rfl⟩ | ⟨rfl, rfl, rfl, b, cap, cs, rfl, hrow, hbw, g, rfl⟩
    · go_wp2_with (with_reducible refine G.any_mark _ ?_; (try generalize Array.size (World.heap (G.w _)) = bk); (try dsimp only [List.set_cons_zero, List.set_cons_succ]); (try clear g); intro g)
      (try (refine cmark _ ?_; (try dsimp only [List.set_cons_zero, List.set_cons_succ]); (try clear g); intro g))
      refine (CK1.out _ (G.sl g (by simp) H1.out) (G.sl g (by simp) J1.out) (G.tab g HT.out)).mono ?_
      rintro e w1 ⟨rfl, hb⟩
      obtain ⟨g1, rfl⟩ := G.call_ex _ hb
      clear hb
      (try clear g)
      revert g1
      intro g
      by_cases hez : e1 = 0
      · subst hez
        go_wp2_with (with_reducible refine G.any_mark _ ?_; (try generalize Array.size (World.heap (G.w _)) = bk); (try dsimp only [List.set_cons_zero, List.set_cons_succ]); (try clear g); intro g)
        refine (CO1.out _).mono ?_
        rintro e w1 ⟨rfl, hb⟩
        obtain ⟨g1, rfl⟩ := G.call_ex _ hb
        clear hb
        (try clear g)
        revert g1
        intro g
        obtain ⟨g2, hg2⟩ := G.less g (M' := [(rb, 25, [.bool false, .slice none 0 0, .slice none 0 0])]) (by simp)
        rw [hg2]
        clear hg2 g
        revert g2
        intro g
        go_wp2_with (first | (with_reducible refine G.any_mark _ ?_; (try generalize Array.size (World.heap (G.w _)) = bk); (try dsimp only [List.set_cons_zero, List.set_cons_succ]); (try clear g); intro g) | (at_builtin; refine wpList_append_lit0 rfl _ _ 56 rfl 61 i0 _ 3 56 Tryz.underlying56 hi hz0 hz1 hz2 rfl (by decide) g rfl 1 rfl rfl HP1 (by decide) (by decide) (by decide) ?_; clear g; intro b cap cs g hb hrow))
        obtain ⟨g2, hg2⟩ := G.less g (M' := [(b, 61, cs), (rb, 25, [.bool false, .slice none 0 0, .slice none 0 0])]) (by simp)
        go_roundg 0
        case measure => omega
        case rel => exact .inr (⟨by simp, by simp, by simp, b, cap, cs, rfl, hrow, hb, g2, hg2⟩)
      · have hne : ((e1 : Int) == 0) = false := by rw [beq_eq_false_iff_ne]; exact hez
        have hne2 : ((e1 : Int) != 0) = true := by rw [bne, hne]; rfl
        have HEZ := Lib.hid hez
        clear hez
        go_wp2_with (with_reducible refine G.any_mark _ ?_; (try generalize Array.size (World.heap (G.w _)) = bk); (try dsimp only [List.set_cons_zero, List.set_cons_succ]); (try clear g); intro g)
        refine bodyPost_ret (v := .tuple #[.agg #[.bool false, .slice none 0 0, .slice none 0 0], .int .i64 e1]) (by simp [results, Tryz.results39, go_sem]) rfl ?_
        rw [← HRR.out, if_pos HEZ.out]
        exact rpe_err _ _
    · go_wp2_with (with_reducible refine G.any_mark _ ?_; (try generalize Array.size (World.heap (G.w _)) = bk); (try dsimp only [List.set_cons_zero, List.set_cons_succ]); (try clear g); intro g)
      refine (HF.out (by simp) _ b cap hrow.le ⟨row_at g (List.mem_cons_self ..) hrow (j := 0) rfl, row_at g (List.mem_cons_self ..) hrow (j := 1) rfl, row_at g (List.mem_cons_self ..) hrow (j := 2) rfl⟩ (G.sl g (by simp) H1.out) (G.sl g (by simp) J1.out) (G.tab g HT.out)).mono ?_
      rintro e w1 ⟨Z1, z1, R1, Z2, z2, R2, rfl, hz1, hz2, hn1, hn2⟩
      have ho1 := fun k o hk => Nat.le_trans (G.chg _).size (hn1.new k o hk)
      have ho2 := fun k o hk => Nat.le_trans (G.chg _).size (hn2.new k o hk)
      obtain ⟨g1, rfl⟩ := G.new2_ex _ hn1 hn2
      clear hn1 hn2
      (try clear g)
      revert g1
      intro g
      go_wp2_with (with_reducible refine G.any_mark _ ?_; (try generalize Array.size (World.heap (G.w _)) = bk); (try dsimp only [List.set_cons_zero, List.set_cons_succ]); (try clear g); intro g)
      refine bodyPost_ret (v := .tuple #[.agg #[.bool r.1, .slice Z1 (limbs r.2.1).length z1, .slice Z2 (limbs r.2.2.1).length z2], .int .i64 r.2.2.2]) (by simp [results, Tryz.results39, go_sem]) rfl ?_
      rw [← HRR.out, if_neg (by decide)]
      exact ⟨Z1, z1, R1, Z2, z2, R2, rfl, hz1, hz2, G.pass _ (by simp) ho1, G.pass _ (by simp) ho2⟩
set_option maxRecDepth 20000 in
set_option maxHeartbeats 4000000 in
theorem with_add (lb : Nat) (r : Bool × Nat × Nat × Int) (s1 : Bool) (A1 B1 : Option Addr) (c1 k1 : Nat) (l1 m1 : List Nat) (s2 : Bool) (A2 B2 : Option Addr) (c2 k2 : Nat) (l2 m2 : List Nat) (w : World) (p1 : PtAt w lb 0 s1 A1 l1.length c1 B1 m1.length k1) (h1 : SlW w A1 c1 l1) (j1 : SlW w B1 k1 m1) (p2 : PtAt w lb 3 s2 A2 l2.length c2 B2 m2.length k2) (h2 : SlW w A2 c2 l2) (j2 : SlW w B2 k2 m2) (hT : Tab w)
    (hf : rchk s1 l1 m1 = 0 → rchk s2 l2 m2 = 0 → ∀ (w' : World) (bF capF : Nat), 2 ≤ capF → FrAt w' bF 0 s1 A1 l1.length c1 B1 m1.length k1 → FrAt w' bF 3 s2 A2 l2.length c2 B2 m2.length k2 → SlW w' A1 c1 l1 → SlW w' B1 k1 m1 → SlW w' A2 c2 l2 → SlW w' B2 k2 m2 → Tab w' → Calls Tryz.prog 44 #[.slice (some ⟨bF, 0, none⟩) 2 capF] w' (RPE r w')) :
    Calls Tryz.prog 39 #[.func (.func 44) #[] #[], .slice (some ⟨lb, 0, none⟩) 2 2] w (RPE (if rchk s1 l1 m1 ≠ 0 then (false, 0, 0, rchk s1 l1 m1) else if rchk s2 l2 m2 ≠ 0 then (false, 0, 0, rchk s2 l2 m2) else r) w) := by
  refine calls_b fun g => ?_
  have CK1 := Lib.hid (fun w a b t => rcheck s1 A1 B1 c1 k1 l1 m1 w a b t)
  have CO1 := Lib.hid (fun w => of_any s1 A1 B1 c1 k1 l1.length m1.length w)
  have E10 := fun (M : List Blk) (g : G w [] M [heapOf w]) => G.old g (List.mem_cons_self ..) p1.c0
  have E11 := fun (M : List Blk) (g : G w [] M [heapOf w]) => G.old g (List.mem_cons_self ..) p1.c1
  have E12 := fun (M : List Blk) (g : G w [] M [heapOf w]) => G.old g (List.mem_cons_self ..) p1.c2
  have H1 := Lib.hid h1
  have J1 := Lib.hid j1
  obtain ⟨e1, he1⟩ : ∃ e, rchk s1 l1 m1 = e := ⟨_, rfl⟩
  rw [he1] at CK1 hf ⊢
  clear p1 h1 j1 he1
  have CK2 := Lib.hid (fun w a b t => rcheck s2 A2 B2 c2 k2 l2 m2 w a b t)
  have CO2 := Lib.hid (fun w => of_any s2 A2 B2 c2 k2 l2.length m2.length w)
  have E20 := fun (M : List Blk) (g : G w [] M [heapOf w]) => G.old g (List.mem_cons_self ..) p2.c0
  have E21 := fun (M : List Blk) (g : G w [] M [heapOf w]) => G.old g (List.mem_cons_self ..) p2.c1
  have E22 := fun (M : List Blk) (g : G w [] M [heapOf w]) => G.old g (List.mem_cons_self ..) p2.c2
  have H2 := Lib.hid h2
  have J2 := Lib.hid j2
  obtain ⟨e2, he2⟩ : ∃ e, rchk s2 l2 m2 = e := ⟨_, rfl⟩
  rw [he2] at CK2 hf ⊢
  clear p2 h2 j2 he2
  have HF := Lib.hid hf
  have HT := Lib.hid hT
  obtain ⟨RR, hRR⟩ : ∃ RR, (if e1 ≠ 0 then (false, 0, 0, e1) else if e2 ≠ 0 then (false, 0, 0, e2) else r) = RR := ⟨_, rfl⟩
  rw [hRR]
  have HRR := Lib.hid hRR
  clear hf hT hRR
  generalize l1.length = n1 at *
  generalize m1.length = d1 at *
  generalize l2.length = n2 at *
  generalize m2.length = d2 at *
  obtain ⟨i0, hi, hz0, hz1, hz2⟩ := info_parts infoFr
  have HP1 := pts_one s1 A1 n1 c1 B1 d1 k1
  have HP2 := pts_one s2 A2 n2 c2 B2 d2 k2
  go_enter Tryz.func39, Tryz.ntmps39
  go_wp2_with (with_reducible refine G.any_mark _ ?_; (try generalize Array.size (World.heap (G.w _)) = bk); (try dsimp only [List.set_cons_zero, List.set_cons_succ]); (try clear g); intro g)
  obtain ⟨rb, rfl⟩ : ∃ rb, rb = bk := ⟨_, rfl⟩
  go_loopg [6, 12] 2 (fun gk s6 s12 wr => (gk = 2 ∧ s12 = .int .i64 0 ∧ s6 = .slice none 0 0 ∧ ∃ g : G w [] [(rb, 25, [.bool false, .slice none 0 0, .slice none 0 0])] [heapOf w], wr = g.w) ∨ (gk = 1 ∧ s12 = .int .i64 1 ∧ e1 = 0 ∧ ∃ b cap cs, s6 = .slice (some ⟨b, 0, none⟩) 1 cap ∧ Row 61 3 1 ([Value.bool s1, .slice A1 n1 c1, .slice B1 d1 k1]) cap cs ∧ w.heap.size ≤ b ∧ ∃ g : G w [] [(b, 61, cs), (rb, 25, [.bool false, .slice none 0 0, .slice none 0 0])] [heapOf w], wr = g.w) ∨ (gk = 0 ∧ s12 = .int .i64 2 ∧ e1 = 0 ∧ e2 = 0 ∧ ∃ b cap cs, s6 = .slice (some ⟨b, 0, none⟩) 2 cap ∧ Row 61 3 2 ([Value.bool s1, .slice A1 n1 c1, .slice B1 d1 k1] ++ [Value.bool s2, .slice A2 n2 c2, .slice B2 d2 k2]) cap cs ∧ w.heap.size ≤ b ∧ ∃ g : G w [] [(b, 61, cs), (rb, 25, [.bool false, .slice none 0 0, .slice none 0 0])] [heapOf w], wr = g.w))
  case atStart => exact .inl ⟨rfl, rfl, rfl, g, rfl⟩
  case round =>
    clear g
    rcases hrel with ⟨rfl, rfl, rfl, g, rfl⟩ | ⟨rfl, rfl, rfl, b, cap, cs, rfl, hrow, hbw, g, rfl⟩ | ⟨rfl, rfl, rfl, rfl, b, cap, cs, rfl, hrow, hbw, g, rfl⟩
    · go_wp2_with (with_reducible refine G.any_mark _ ?_; (try generalize Array.size (World.heap (G.w _)) = bk); (try dsimp only [List.set_cons_zero, List.set_cons_succ]); (try clear g); intro g)
      (try (refine cmark _ ?_; (try dsimp only [List.set_cons_zero, List.set_cons_succ]); (try clear g); intro g))
      refine (CK1.out _ (G.sl g (by simp) H1.out) (G.sl g (by simp) J1.out) (G.tab g HT.out)).mono ?_
      rintro e w1 ⟨rfl, hb⟩
      obtain ⟨g1, rfl⟩ := G.call_ex _ hb
      clear hb
      (try clear g)
      revert g1
      intro g
      by_cases hez : e1 = 0
      · subst hez
        go_wp2_with (with_reducible refine G.any_mark _ ?_; (try generalize Array.size (World.heap (G.w _)) = bk); (try dsimp only [List.set_cons_zero, List.set_cons_succ]); (try clear g); intro g)
        refine (CO1.out _).mono ?_
        rintro e w1 ⟨rfl, hb⟩
        obtain ⟨g1, rfl⟩ := G.call_ex _ hb
        clear hb
        (try clear g)
        revert g1
        intro g
        obtain ⟨g2, hg2⟩ := G.less g (M' := [(rb, 25, [.bool false, .slice none 0 0, .slice none 0 0])]) (by simp)
        rw [hg2]
        clear hg2 g
        revert g2
        intro g
        go_wp2_with (first | (with_reducible refine G.any_mark _ ?_; (try generalize Array.size (World.heap (G.w _)) = bk); (try dsimp only [List.set_cons_zero, List.set_cons_succ]); (try clear g); intro g) | (at_builtin; refine wpList_append_lit0 rfl _ _ 56 rfl 61 i0 _ 3 56 Tryz.underlying56 hi hz0 hz1 hz2 rfl (by decide) g rfl 1 rfl rfl HP1 (by decide) (by decide) (by decide) ?_; clear g; intro b cap cs g hb hrow))
        obtain ⟨g2, hg2⟩ := G.less g (M' := [(b, 61, cs), (rb, 25, [.bool false, .slice none 0 0, .slice none 0 0])]) (by simp)
        go_roundg 1
        case measure => omega
        case rel => exact .inr (.inl ⟨by simp, by simp, by simp, b, cap, cs, rfl, hrow, hb, g2, hg2⟩)
      · have hne : ((e1 : Int) == 0) = false := by rw [beq_eq_false_iff_ne]; exact hez
        have hne2 : ((e1 : Int) != 0) = true := by rw [bne, hne]; rfl
        have HEZ := Lib.hid hez
        clear hez
        go_wp2_with (with_reducible refine G.any_mark _ ?_; (try generalize Array.size (World.heap (G.w _)) = bk); (try dsimp only [List.set_cons_zero, List.set_cons_succ]); (try clear g); intro g)
        refine bodyPost_ret (v := .tuple #[.agg #[.bool false, .slice none 0 0, .slice none 0 0], .int .i64 e1]) (by simp [results, Tryz.results39, go_sem]) rfl ?_
        rw [← HRR.out, if_pos HEZ.out]
        exact rpe_err _ _
    · go_wp2_with (with_reducible refine G.any_mark _ ?_; (try generalize Array.size (World.heap (G.w _)) = bk); (try dsimp only [List.set_cons_zero, List.set_cons_succ]); (try clear g); intro g)
      (try (refine cmark _ ?_; (try dsimp only [List.set_cons_zero, List.set_cons_succ]); (try clear g); intro g))
      refine (CK2.out _ (G.sl g (by simp) H2.out) (G.sl g (by simp) J2.out) (G.tab g HT.out)).mono ?_
      rintro e w1 ⟨rfl, hb⟩
      obtain ⟨g1, rfl⟩ := G.call_ex _ hb
      clear hb
      (try clear g)
      revert g1
      intro g
      by_cases hez : e2 = 0
      · subst hez
        go_wp2_with (with_reducible refine G.any_mark _ ?_; (try generalize Array.size (World.heap (G.w _)) = bk); (try dsimp only [List.set_cons_zero, List.set_cons_succ]); (try clear g); intro g)
        refine (CO2.out _).mono ?_
        rintro e w1 ⟨rfl, hb⟩
        obtain ⟨g1, rfl⟩ := G.call_ex _ hb
        clear hb
        (try clear g)
        revert g1
        intro g
        obtain ⟨g2, hg2⟩ := G.less g (M' := [(b, 61, cs), (rb, 25, [.bool false, .slice none 0 0, .slice none 0 0])]) (by simp)
        rw [hg2]
        clear hg2 g
        revert g2
        intro g
        go_wp2_with (first | (with_reducible refine G.any_mark _ ?_; (try generalize Array.size (World.heap (G.w _)) = bk); (try dsimp only [List.set_cons_zero, List.set_cons_succ]); (try clear g); intro g) | (at_builtin; refine wpList_append_lit rfl _ _ 56 rfl 61 i0 _ 3 56 Tryz.underlying56 hi hz0 hz1 hz2 rfl (by decide) g hrow hbw rfl 1 rfl rfl HP2 (by decide) (by decide) (by decide) ?_; clear hrow hbw g; intro b cap cs g hb hrow))
        obtain ⟨g2, hg2⟩ := G.less g (M' := [(b, 61, cs), (rb, 25, [.bool false, .slice none 0 0, .slice none 0 0])]) (by simp)
        go_roundg 0
        case measure => omega
        case rel => exact .inr (.inr (⟨by simp, by simp, by simp, by simp, b, cap, cs, rfl, hrow, hb, g2, hg2⟩))
      · have hne : ((e2 : Int) == 0) = false := by rw [beq_eq_false_iff_ne]; exact hez
        have hne2 : ((e2 : Int) != 0) = true := by rw [bne, hne]; rfl
        have HEZ := Lib.hid hez
        clear hez
        go_wp2_with (with_reducible refine G.any_mark _ ?_; (try generalize Array.size (World.heap (G.w _)) = bk); (try dsimp only [List.set_cons_zero, List.set_cons_succ]); (try clear g); intro g)
        refine bodyPost_ret (v := .tuple #[.agg #[.bool false, .slice none 0 0, .slice none 0 0], .int .i64 e2]) (by simp [results, Tryz.results39, go_sem]) rfl ?_
        rw [← HRR.out, if_neg (by decide), if_pos HEZ.out]
        exact rpe_err _ _
    · go_wp2_with (with_reducible refine G.any_mark _ ?_; (try generalize Array.size (World.heap (G.w _)) = bk); (try dsimp only [List.set_cons_zero, List.set_cons_succ]); (try clear g); intro g)
      refine (HF.out (by simp) (by simp) _ b cap hrow.le ⟨row_at g (List.mem_cons_self ..) hrow (j := 0) rfl, row_at g (List.mem_cons_self ..) hrow (j := 1) rfl, row_at g (List.mem_cons_self ..) hrow (j := 2) rfl⟩ ⟨row_at g (List.mem_cons_self ..) hrow (j := 3) rfl, row_at g (List.mem_cons_self ..) hrow (j := 4) rfl, row_at g (List.mem_cons_self ..) hrow (j := 5) rfl⟩ (G.sl g (by simp) H1.out) (G.sl g (by simp) J1.out) (G.sl g (by simp) H2.out) (G.sl g (by simp) J2.out) (G.tab g HT.out)).mono ?_
      rintro e w1 ⟨Z1, z1, R1, Z2, z2, R2, rfl, hz1, hz2, hn1, hn2⟩
      have ho1 := fun k o hk => Nat.le_trans (G.chg _).size (hn1.new k o hk)
      have ho2 := fun k o hk => Nat.le_trans (G.chg _).size (hn2.new k o hk)
      obtain ⟨g1, rfl⟩ := G.new2_ex _ hn1 hn2
      clear hn1 hn2
      (try clear g)
      revert g1
      intro g
      go_wp2_with (with_reducible refine G.any_mark _ ?_; (try generalize Array.size (World.heap (G.w _)) = bk); (try dsimp only [List.set_cons_zero, List.set_cons_succ]); (try clear g); intro g)
      refine bodyPost_ret (v := .tuple #[.agg #[.bool r.1, .slice Z1 (limbs r.2.1).length z1, .slice Z2 (limbs r.2.2.1).length z2], .int .i64 r.2.2.2]) (by simp [results, Tryz.results39, go_sem]) rfl ?_
      rw [← HRR.out, if_neg (by decide), if_neg (by decide)]
      exact ⟨Z1, z1, R1, Z2, z2, R2, rfl, hz1, hz2, G.pass _ (by simp) ho1, G.pass _ (by simp) ho2⟩
set_option maxRecDepth 20000 in
set_option maxHeartbeats 4000000 in
theorem with_sub (lb : Nat) (r : Bool × Nat × Nat × Int) (s1 : Bool) (A1 B1 : Option Addr) (c1 k1 : Nat) (l1 m1 : List Nat) (s2 : Bool) (A2 B2 : Option Addr) (c2 k2 : Nat) (l2 m2 : List Nat) (w : World) (p1 : PtAt w lb 0 s1 A1 l1.length c1 B1 m1.length k1) (h1 : SlW w A1 c1 l1) (j1 : SlW w B1 k1 m1) (p2 : PtAt w lb 3 s2 A2 l2.length c2 B2 m2.length k2) (h2 : SlW w A2 c2 l2) (j2 : SlW w B2 k2 m2) (hT : Tab w)
    (hf : rchk s1 l1 m1 = 0 → rchk s2 l2 m2 = 0 → ∀ (w' : World) (bF capF : Nat), 2 ≤ capF → FrAt w' bF 0 s1 A1 l1.length c1 B1 m1.length k1 → FrAt w' bF 3 s2 A2 l2.length c2 B2 m2.length k2 → SlW w' A1 c1 l1 → SlW w' B1 k1 m1 → SlW w' A2 c2 l2 → SlW w' B2 k2 m2 → Tab w' → Calls Tryz.prog 49 #[.slice (some ⟨bF, 0, none⟩) 2 capF] w' (RPE r w')) :
    Calls Tryz.prog 39 #[.func (.func 49) #[] #[], .slice (some ⟨lb, 0, none⟩) 2 2] w (RPE (if rchk s1 l1 m1 ≠ 0 then (false, 0, 0, rchk s1 l1 m1) else if rchk s2 l2 m2 ≠ 0 then (false, 0, 0, rchk s2 l2 m2) else r) w) := by
  refine calls_b fun g => ?_
  have CK1 := Lib.hid (fun w a b t => rcheck s1 A1 B1 c1 k1 l1 m1 w a b t)
  have CO1 := Lib.hid (fun w => of_any s1 A1 B1 c1 k1 l1.length m1.length w)
  have E10 := fun (M : List Blk) (g : G w [] M [heapOf w]) => G.old g (List.mem_cons_self ..) p1.c0
  have E11 := fun (M : List Blk) (g : G w [] M [heapOf w]) => G.old g (List.mem_cons_self ..) p1.c1
  have E12 := fun (M : List Blk) (g : G w [] M [heapOf w]) => G.old g (List.mem_cons_self ..) p1.c2
  have H1 := Lib.hid h1
  have J1 := Lib.hid j1
  obtain ⟨e1, he1⟩ : ∃ e, rchk s1 l1 m1 = e := ⟨_, rfl⟩
  rw [he1] at CK1 hf ⊢
  clear p1 h1 j1 he1
  have CK2 := Lib.hid (fun w a b t => rcheck s2 A2 B2 c2 k2 l2 m2 w a b t)
  have CO2 := Lib.hid (fun w => of_any s2 A2 B2 c2 k2 l2.length m2.length w)
  have E20 := fun (M : List Blk) (g : G w [] M [heapOf w]) => G.old g (List.mem_cons_self ..) p2.c0
  have E21 := fun (M : List Blk) (g : G w [] M [heapOf w]) => G.old g (List.mem_cons_self ..) p2.c1
  have E22 := fun (M : List Blk) (g : G w [] M [heapOf w]) => G.old g (List.mem_cons_self ..) p2.c2
  have H2 := Lib.hid h2
  have J2 := Lib.hid j2
  obtain ⟨e2, he2⟩ : ∃ e, rchk s2 l2 m2 = e := ⟨_, rfl⟩
  rw [he2] at CK2 hf ⊢
  clear p2 h2 j2 he2
  have HF := Lib.hid hf
  have HT := Lib.hid hT
  obtain ⟨RR, hRR⟩ : ∃ RR, (if e1 ≠ 0 then (false, 0, 0, e1) else if e2 ≠ 0 then (false, 0, 0, e2) else r) = RR := ⟨_, rfl⟩
  rw [hRR]
  have HRR := Lib.hid hRR
  clear hf hT hRR
  generalize l1.length = n1 at *
  generalize m1.length = d1 at *
  generalize l2.length = n2 at *
  generalize m2.length = d2 at *
  obtain ⟨i0, hi, hz0, hz1, hz2⟩ := info_parts infoFr
  have HP1 := pts_one s1 A1 n1 c1 B1 d1 k1
  have HP2 := pts_one s2 A2 n2 c2 B2 d2 k2
  go_enter Tryz.func39, Tryz.ntmps39
  go_wp2_with (with_reducible refine G.any_mark _ ?_; (try generalize Array.size (World.heap (G.w _)) = bk); (try dsimp only [List.set_cons_zero, List.set_cons_succ]); (try clear g); intro g)
  obtain ⟨rb, rfl⟩ : ∃ rb, rb = bk := ⟨_, rfl⟩
  go_loopg [6, 12] 2 (fun gk s6 s12 wr => (gk = 2 ∧ s12 = .int .i64 0 ∧ s6 = .slice none 0 0 ∧ ∃ g : G w [] [(rb, 25, [.bool false, .slice none 0 0, .slice none 0 0])] [heapOf w], wr = g.w) ∨ (gk = 1 ∧ s12 = .int .i64 1 ∧ e1 = 0 ∧ ∃ b cap cs, s6 = .slice (some ⟨b, 0, none⟩) 1 cap ∧ Row 61 3 1 ([Value.bool s1, .slice A1 n1 c1, .slice B1 d1 k1]) cap cs ∧ w.heap.size ≤ b ∧ ∃ g : G w [] [(b, 61, cs), (rb, 25, [.bool false, .slice none 0 0, .slice none 0 0])] [heapOf w], wr = g.w) ∨ (gk = 0 ∧ s12 = .int .i64 2 ∧ e1 = 0 ∧ e2 = 0 ∧ ∃ b cap cs, s6 = .slice (some ⟨b, 0, none⟩) 2 cap ∧ Row 61 3 2 ([Value.bool s1, .slice A1 n1 c1, .slice B1 d1 k1] ++ [Value.bool s2, .slice A2 n2 c2, .slice B2 d2 k2]) cap cs ∧ w.heap.size ≤ b ∧ ∃ g : G w [] [(b, 61, cs), (rb, 25, [.bool false, .slice none 0 0, .slice none 0 0])] [heapOf w], wr = g.w))
  case atStart => exact .inl ⟨rfl, rfl, rfl, g, rfl⟩
  case round =>
    clear g
    rcases hrel with ⟨rfl, rfl, rfl, g, rfl⟩ | ⟨rfl, rfl, rfl, b, cap, cs, rfl, hrow, hbw, g, rfl⟩ | ⟨rfl, rfl, rfl, rfl, b, cap, cs, rfl, hrow, hbw, g, rfl⟩
    · go_wp2_with (with_reducible refine G.any_mark _ ?_; (try generalize Array.size (World.heap (G.w _)) = bk); (try dsimp only [List.set_cons_zero, List.set_cons_succ]); (try clear g); intro g)
      (try (refine cmark _ ?_; (try dsimp only [List.set_cons_zero, List.set_cons_succ]); (try clear g); intro g))
      refine (CK1.out _ (G.sl g (by simp) H1.out) (G.sl g (by simp) J1.out) (G.tab g HT.out)).mono ?_
      rintro e w1 ⟨rfl, hb⟩
      obtain ⟨g1, rfl⟩ := G.call_ex _ hb
      clear hb
      (try clear g)
      revert g1
      intro g
      by_cases hez : e1 = 0
      · subst hez
        go_wp2_with (with_reducible refine G.any_mark _ ?_; (try generalize Array.size (World.heap (G.w _)) = bk); (try dsimp only [List.set_cons_zero, List.set_cons_succ]); (try clear g); intro g)
        refine (CO1.out _).mono ?_
        rintro e w1 ⟨rfl, hb⟩
        obtain ⟨g1, rfl⟩ := G.call_ex _ hb
        clear hb
        (try clear g)
        revert g1
        intro g
        obtain ⟨g2, hg2⟩ := G.less g (M' := [(rb, 25, [.bool false, .slice none 0 0, .slice none 0 0])]) (by simp)
        rw [hg2]
        clear hg2 g
        revert g2
        intro g
        go_wp2_with (first | (with_reducible refine G.any_mark _ ?_; (try generalize Array.size (World.heap (G.w _)) = bk); (try dsimp only [List.set_cons_zero, List.set_cons_succ]); (try clear g); intro g) | (at_builtin; refine wpList_append_lit0 rfl _ _ 56 rfl 61 i0 _ 3 56 Tryz.underlying56 hi hz0 hz1 hz2 rfl (by decide) g rfl 1 rfl rfl HP1 (by decide) (by decide) (by decide) ?_; clear g; intro b cap cs g hb hrow))
        obtain ⟨g2, hg2⟩ := G.less g (M' := [(b, 61, cs), (rb, 25, [.bool false, .slice none 0 0, .slice none 0 0])]) (by simp)
        go_roundg 1
        case measure => omega
        case rel => exact .inr (.inl ⟨by simp, by simp, by simp, b, cap, cs, rfl, hrow, hb, g2, hg2⟩)
      · have hne : ((e1 : Int) == 0) = false := by rw [beq_eq_false_iff_ne]; exact hez
        have hne2 : ((e1 : Int) != 0) = true := by rw [bne, hne]; rfl
        have HEZ := Lib.hid hez
        clear hez
        go_wp2_with (with_reducible refine G.any_mark _ ?_; (try generalize Array.size (World.heap (G.w _)) = bk); (try dsimp only [List.set_cons_zero, List.set_cons_succ]); (try clear g); intro g)
        refine bodyPost_ret (v := .tuple #[.agg #[.bool false, .slice none 0 0, .slice none 0 0], .int .i64 e1]) (by simp [results, Tryz.results39, go_sem]) rfl ?_
        rw [← HRR.out, if_pos HEZ.out]
        exact rpe_err _ _
    · go_wp2_with (with_reducible refine G.any_mark _ ?_; (try generalize Array.size (World.heap (G.w _)) = bk); (try dsimp only [List.set_cons_zero, List.set_cons_succ]); (try clear g); intro g)
      (try (refine cmark _ ?_; (try dsimp only [List.set_cons_zero, List.set_cons_succ]); (try clear g); intro g))
      refine (CK2.out _ (G.sl g (by simp) H2.out) (G.sl g (by simp) J2.out) (G.tab g HT.out)).mono ?_
      rintro e w1 ⟨rfl, hb⟩
      obtain ⟨g1, rfl⟩ := G.call_ex _ hb
      clear hb
      (try clear g)
      revert g1
      intro g
      by_cases hez : e2 = 0
      · subst hez
        go_wp2_with (with_reducible refine G.any_mark _ ?_; (try generalize Array.size (World.heap (G.w _)) = bk); (try dsimp only [List.set_cons_zero, List.set_cons_succ]); (try clear g); intro g)
        refine (CO2.out _).mono ?_
        rintro e w1 ⟨rfl, hb⟩
        obtain ⟨g1, rfl⟩ := G.call_ex _ hb
        clear hb
        (try clear g)
        revert g1
        intro g
        obtain ⟨g2, hg2⟩ := G.less g (M' := [(b, 61, cs), (rb, 25, [.bool false, .slice none 0 0, .slice none 0 0])]) (by simp)
        rw [hg2]
        clear hg2 g
        revert g2
        intro g
        go_wp2_with (first | (with_reducible refine G.any_mark _ ?_; (try generalize Array.size (World.heap (G.w _)) = bk); (try dsimp only [List.set_cons_zero, List.set_cons_succ]); (try clear g); intro g) | (at_builtin; refine wpList_append_lit rfl _ _ 56 rfl 61 i0 _ 3 56 Tryz.underlying56 hi hz0 hz1 hz2 rfl (by decide) g hrow hbw rfl 1 rfl rfl HP2 (by decide) (by decide) (by decide) ?_; clear hrow hbw g; intro b cap cs g hb hrow))
        obtain ⟨g2, hg2⟩ := G.less g (M' := [(b, 61, cs), (rb, 25, [.bool false, .slice none 0 0, .slice none 0 0])]) (by simp)
        go_roundg 0
        case measure => omega
        case rel => exact .inr (.inr (⟨by simp, by simp, by simp, by simp, b, cap, cs, rfl, hrow, hb, g2, hg2⟩))
      · have hne : ((e2 : Int) == 0) = false := by rw [beq_eq_false_iff_ne]; exact hez
        have hne2 : ((e2 : Int) != 0) = true := by rw [bne, hne]; rfl
        have HEZ := Lib.hid hez
        clear hez
        go_wp2_with (with_reducible refine G.any_mark _ ?_; (try generalize Array.size (World.heap (G.w _)) = bk); (try dsimp only [List.set_cons_zero, List.set_cons_succ]); (try clear g); intro g)
        refine bodyPost_ret (v := .tuple #[.agg #[.bool false, .slice none 0 0, .slice none 0 0], .int .i64 e2]) (by simp [results, Tryz.results39, go_sem]) rfl ?_
        rw [← HRR.out, if_neg (by decide), if_pos HEZ.out]
        exact rpe_err _ _
    · go_wp2_with (with_reducible refine G.any_mark _ ?_; (try generalize Array.size (World.heap (G.w _)) = bk); (try dsimp only [List.set_cons_zero, List.set_cons_succ]); (try clear g); intro g)
      refine (HF.out (by simp) (by simp) _ b cap hrow.le ⟨row_at g (List.mem_cons_self ..) hrow (j := 0) rfl, row_at g (List.mem_cons_self ..) hrow (j := 1) rfl, row_at g (List.mem_cons_self ..) hrow (j := 2) rfl⟩ ⟨row_at g (List.mem_cons_self ..) hrow (j := 3) rfl, row_at g (List.mem_cons_self ..) hrow (j := 4) rfl, row_at g (List.mem_cons_self ..) hrow (j := 5) rfl⟩ (G.sl g (by simp) H1.out) (G.sl g (by simp) J1.out) (G.sl g (by simp) H2.out) (G.sl g (by simp) J2.out) (G.tab g HT.out)).mono ?_
      rintro e w1 ⟨Z1, z1, R1, Z2, z2, R2, rfl, hz1, hz2, hn1, hn2⟩
      have ho1 := fun k o hk => Nat.le_trans (G.chg _).size (hn1.new k o hk)
      have ho2 := fun k o hk => Nat.le_trans (G.chg _).size (hn2.new k o hk)
      obtain ⟨g1, rfl⟩ := G.new2_ex _ hn1 hn2
      clear hn1 hn2
      (try clear g)
      revert g1
      intro g
      go_wp2_with (with_reducible refine G.any_mark _ ?_; (try generalize Array.size (World.heap (G.w _)) = bk); (try dsimp only [List.set_cons_zero, List.set_cons_succ]); (try clear g); intro g)
      refine bodyPost_ret (v := .tuple #[.agg #[.bool r.1, .slice Z1 (limbs r.2.1).length z1, .slice Z2 (limbs r.2.2.1).length z2], .int .i64 r.2.2.2]) (by simp [results, Tryz.results39, go_sem]) rfl ?_
      rw [← HRR.out, if_neg (by decide), if_neg (by decide)]
      exact ⟨Z1, z1, R1, Z2, z2, R2, rfl, hz1, hz2, G.pass _ (by simp) ho1, G.pass _ (by simp) ho2⟩
set_option maxRecDepth 20000 in
set_option maxHeartbeats 4000000 in
theorem with_mul (lb : Nat) (r : Bool × Nat × Nat × Int) (s1 : Bool) (A1 B1 : Option Addr) (c1 k1 : Nat) (l1 m1 : List Nat) (s2 : Bool) (A2 B2 : Option Addr) (c2 k2 : Nat) (l2 m2 : List Nat) (w : World) (p1 : PtAt w lb 0 s1 A1 l1.length c1 B1 m1.length k1) (h1 : SlW w A1 c1 l1) (j1 : SlW w B1 k1 m1) (p2 : PtAt w lb 3 s2 A2 l2.length c2 B2 m2.length k2) (h2 : SlW w A2 c2 l2) (j2 : SlW w B2 k2 m2) (hT : Tab w)
    (hf : rchk s1 l1 m1 = 0 → rchk s2 l2 m2 = 0 → ∀ (w' : World) (bF capF : Nat), 2 ≤ capF → FrAt w' bF 0 s1 A1 l1.length c1 B1 m1.length k1 → FrAt w' bF 3 s2 A2 l2.length c2 B2 m2.length k2 → SlW w' A1 c1 l1 → SlW w' B1 k1 m1 → SlW w' A2 c2 l2 → SlW w' B2 k2 m2 → Tab w' → Calls Tryz.prog 50 #[.slice (some ⟨bF, 0, none⟩) 2 capF] w' (RPE r w')) :
    Calls Tryz.prog 39 #[.func (.func 50) #[] #[], .slice (some ⟨lb, 0, none⟩) 2 2] w (RPE (if rchk s1 l1 m1 ≠ 0 then (false, 0, 0, rchk s1 l1 m1) else if rchk s2 l2 m2 ≠ 0 then (false, 0, 0, rchk s2 l2 m2) else r) w) := by
  refine calls_b fun g => ?_
  have CK1 := Lib.hid (fun w a b t => rcheck s1 A1 B1 c1 k1 l1 m1 w a b t)
  have CO1 := Lib.hid (fun w => of_any s1 A1 B1 c1 k1 l1.length m1.length w)
  have E10 := fun (M : List Blk) (g : G w [] M [heapOf w]) => G.old g (List.mem_cons_self ..) p1.c0
  have E11 := fun (M : List Blk) (g : G w [] M [heapOf w]) => G.old g (List.mem_cons_self ..) p1.c1
  have E12 := fun (M : List Blk) (g : G w [] M [heapOf w]) => G.old g (List.mem_cons_self ..) p1.c2
  have H1 := Lib.hid h1
  have J1 := Lib.hid j1
  obtain ⟨e1, he1⟩ : ∃ e, rchk s1 l1 m1 = e := ⟨_, rfl⟩
  rw [he1] at CK1 hf ⊢
  clear p1 h1 j1 he1
  have CK2 := Lib.hid (fun w a b t => rcheck s2 A2 B2 c2 k2 l2 m2 w a b t)
  have CO2 := Lib.hid (fun w => of_any s2 A2 B2 c2 k2 l2.length m2.length w)
  have E20 := fun (M : List Blk) (g : G w [] M [heapOf w]) => G.old g (List.mem_cons_self ..) p2.c0
  have E21 := fun (M : List Blk) (g : G w [] M [heapOf w]) => G.old g (List.mem_cons_self ..) p2.c1
  have E22 := fun (M : List Blk) (g : G w [] M [heapOf w]) => G.old g (List.mem_cons_self ..) p2.c2
  have H2 := Lib.hid h2
  have J2 := Lib.hid j2
  obtain ⟨e2, he2⟩ : ∃ e, rchk s2 l2 m2 = e := ⟨_, rfl⟩
  rw [he2] at CK2 hf ⊢
  clear p2 h2 j2 he2
  have HF := Lib.hid hf
  have HT := Lib.hid hT
  obtain ⟨RR, hRR⟩ : ∃ RR, (if e1 ≠ 0 then (false, 0, 0, e1) else if e2 ≠ 0 then (false, 0, 0, e2) else r) = RR := ⟨_, rfl⟩
  rw [hRR]
  have HRR := Lib.hid hRR
  clear hf hT hRR
  generalize l1.length = n1 at *
  generalize m1.length = d1 at *
  generalize l2.length = n2 at *
  generalize m2.length = d2 at *
  obtain ⟨i0, hi, hz0, hz1, hz2⟩ := info_parts infoFr
  have HP1 := pts_one s1 A1 n1 c1 B1 d1 k1
  have HP2 := pts_one s2 A2 n2 c2 B2 d2 k2
  go_enter Tryz.func39, Tryz.ntmps39
  go_wp2_with (with_reducible refine G.any_mark _ ?_; (try generalize Array.size (World.heap (G.w _)) = bk); (try dsimp only [List.set_cons_zero, List.set_cons_succ]); (try clear g); intro g)
  obtain ⟨rb, rfl⟩ : ∃ rb, rb = bk := ⟨_, rfl⟩
  go_loopg [6, 12] 2 (fun gk s6 s12 wr => (gk = 2 ∧ s12 = .int .i64 0 ∧ s6 = .slice none 0 0 ∧ ∃ g : G w [] [(rb, 25, [.bool false, .slice none 0 0, .slice none 0 0])] [heapOf w], wr = g.w) ∨ (gk = 1 ∧ s12 = .int .i64 1 ∧ e1 = 0 ∧ ∃ b cap cs, s6 = .slice (some ⟨b, 0, none⟩) 1 cap ∧ Row 61 3 1 ([Value.bool s1, .slice A1 n1 c1, .slice B1 d1 k1]) cap cs ∧ w.heap.size ≤ b ∧ ∃ g : G w [] [(b, 61, cs), (rb, 25, [.bool false, .slice none 0 0, .slice none 0 0])] [heapOf w], wr = g.w) ∨ (gk = 0 ∧ s12 = .int .i64 2 ∧ e1 = 0 ∧ e2 = 0 ∧ ∃ b cap cs, s6 = .slice (some ⟨b, 0, none⟩) 2 cap ∧ Row 61 3 2 ([Value.bool s1, .slice A1 n1 c1, .slice B1 d1 k1] ++ [Value.bool s2, .slice A2 n2 c2, .slice B2 d2 k2]) cap cs ∧ w.heap.size ≤ b ∧ ∃ g : G w [] [(b, 61, cs), (rb, 25, [.bool false, .slice none 0 0, .slice none 0 0])] [heapOf w], wr = g.w))
  case atStart => exact .inl ⟨rfl, rfl, rfl, g, rfl⟩
  case round =>
    clear g
    rcases hrel with ⟨rfl, rfl, rfl, g, rfl⟩ | ⟨rfl, rfl, rfl, b, cap, cs, rfl, hrow, hbw, g, rfl⟩ | ⟨rfl, rfl, rfl, rfl, b, cap, cs, rfl, hrow, hbw, g, rfl⟩
    · go_wp2_with (with_reducible refine G.any_mark _ ?_; (try generalize Array.size (World.heap (G.w _)) = bk); (try dsimp only [List.set_cons_zero, List.set_cons_succ]); (try clear g); intro g)
      (try (refine cmark _ ?_; (try dsimp only [List.set_cons_zero, List.set_cons_succ]); (try clear g); intro g))
      refine (CK1.out _ (G.sl g (by simp) H1.out) (G.sl g (by simp) J1.out) (G.tab g HT.out)).mono ?_
      rintro e w1 ⟨rfl, hb⟩
      obtain ⟨g1, rfl⟩ := G.call_ex _ hb
      clear hb
      (try clear g)
      revert g1
      intro g
      by_cases hez : e1 = 0
      · subst hez
        go_wp2_with (with_reducible refine G.any_mark _ ?_; (try generalize Array.size (World.heap (G.w _)) = bk); (try dsimp only [List.set_cons_zero, List.set_cons_succ]); (try clear g); intro g)
        refine (CO1.out _).mono ?_
        rintro e w1 ⟨rfl, hb⟩
        obtain ⟨g1, rfl⟩ := G.call_ex _ hb
        clear hb
        (try clear g)
        revert g1
        intro g
        obtain ⟨g2, hg2⟩ := G.less g (M' := [(rb, 25, [.bool false, .slice none 0 0, .slice none 0 0])]) (by simp)
        rw [hg2]
        clear hg2 g
        revert g2
        intro g
        go_wp2_with (first | (with_reducible refine G.any_mark _ ?_; (try generalize Array.size (World.heap (G.w _)) = bk); (try dsimp only [List.set_cons_zero, List.set_cons_succ]); (try clear g); intro g) | (at_builtin; refine wpList_append_lit0 rfl _ _ 56 rfl 61 i0 _ 3 56 Tryz.underlying56 hi hz0 hz1 hz2 rfl (by decide) g rfl 1 rfl rfl HP1 (by decide) (by decide) (by decide) ?_; clear g; intro b cap cs g hb hrow))
        obtain ⟨g2, hg2⟩ := G.less g (M' := [(b, 61, cs), (rb, 25, [.bool false, .slice none 0 0, .slice none 0 0])]) (by simp)
        go_roundg 1
        case measure => omega
        case rel => exact .inr (.inl ⟨by simp, by simp, by simp, b, cap, cs, rfl, hrow, hb, g2, hg2⟩)
      · have hne : ((e1 : Int) == 0) = false := by rw [beq_eq_false_iff_ne]; exact hez
        have hne2 : ((e1 : Int) != 0) = true := by rw [bne, hne]; rfl
        have HEZ := Lib.hid hez
        clear hez
        go_wp2_with (with_reducible refine G.any_mark _ ?_; (try generalize Array.size (World.heap (G.w _)) = bk); (try dsimp only [List.set_cons_zero, List.set_cons_succ]); (try clear g); intro g)
        refine bodyPost_ret (v := .tuple #[.agg #[.bool false, .slice none 0 0, .slice none 0 0], .int .i64 e1]) (by simp [results, Tryz.results39, go_sem]) rfl ?_
        rw [← HRR.out, if_pos HEZ.out]
        exact rpe_err _ _
    · go_wp2_with (with_reducible refine G.any_mark _ ?_; (try generalize Array.size (World.heap (G.w _)) = bk); (try dsimp only [List.set_cons_zero, List.set_cons_succ]); (try clear g); intro g)
      (try (refine cmark _ ?_; (try dsimp only [List.set_cons_zero, List.set_cons_succ]); (try clear g); intro g))
      refine (CK2.out _ (G.sl g (by simp) H2.out) (G.sl g (by simp) J2.out) (G.tab g HT.out)).mono ?_
      rintro e w1 ⟨rfl, hb⟩
      obtain ⟨g1, rfl⟩ := G.call_ex _ hb
      clear hb
      (try clear g)
      revert g1
      intro g
      by_cases hez : e2 = 0
      · subst hez
        go_wp2_with (with_reducible refine G.any_mark _ ?_; (try generalize Array.size (World.heap (G.w _)) = bk); (try dsimp only [List.set_cons_zero, List.set_cons_succ]); (try clear g); intro g)
        refine (CO2.out _).mono ?_
        rintro e w1 ⟨rfl, hb⟩
        obtain ⟨g1, rfl⟩ := G.call_ex _ hb
        clear hb
        (try clear g)
        revert g1
        intro g
        obtain ⟨g2, hg2⟩ := G.less g (M' := [(b, 61, cs), (rb, 25, [.bool false, .slice none 0 0, .slice none 0 0])]) (by simp)
        rw [hg2]
        clear hg2 g
        revert g2
        intro g
        go_wp2_with (first | (with_reducible refine G.any_mark _ ?_; (try generalize Array.size (World.heap (G.w _)) = bk); (try dsimp only [List.set_cons_zero, List.set_cons_succ]); (try clear g); intro g) | (at_builtin; refine wpList_append_lit rfl _ _ 56 rfl 61 i0 _ 3 56 Tryz.underlying56 hi hz0 hz1 hz2 rfl (by decide) g hrow hbw rfl 1 rfl rfl HP2 (by decide) (by decide) (by decide) ?_; clear hrow hbw g; intro b cap cs g hb hrow))
        obtain ⟨g2, hg2⟩ := G.less g (M' := [(b, 61, cs), (rb, 25, [.bool false, .slice none 0 0, .slice none 0 0])]) (by simp)
        go_roundg 0
        case measure => omega
        case rel => exact .inr (.inr (⟨by simp, by simp, by simp, by simp, b, cap, cs, rfl, hrow, hb, g2, hg2⟩))
      · have hne : ((e2 : Int) == 0) = false := by rw [beq_eq_false_iff_ne]; exact hez
        have hne2 : ((e2 : Int) != 0) = true := by rw [bne, hne]; rfl
        have HEZ := Lib.hid hez
        clear hez
        go_wp2_with (with_reducible refine G.any_mark _ ?_; (try generalize Array.size (World.heap (G.w _)) = bk); (try dsimp only [List.set_cons_zero, List.set_cons_succ]); (try clear g); intro g)
        refine bodyPost_ret (v := .tuple #[.agg #[.bool false, .slice none 0 0, .slice none 0 0], .int .i64 e2]) (by simp [results, Tryz.results39, go_sem]) rfl ?_
        rw [← HRR.out, if_neg (by decide), if_pos HEZ.out]
        exact rpe_err _ _
    · go_wp2_with (with_reducible refine G.any_mark _ ?_; (try generalize Array.size (World.heap (G.w _)) = bk); (try dsimp only [List.set_cons_zero, List.set_cons_succ]); (try clear g); intro g)
      refine (HF.out (by simp) (by simp) _ b cap hrow.le ⟨row_at g (List.mem_cons_self ..) hrow (j := 0) rfl, row_at g (List.mem_cons_self ..) hrow (j := 1) rfl, row_at g (List.mem_cons_self ..) hrow (j := 2) rfl⟩ ⟨row_at g (List.mem_cons_self ..) hrow (j := 3) rfl, row_at g (List.mem_cons_self ..) hrow (j := 4) rfl, row_at g (List.mem_cons_self ..) hrow (j := 5) rfl⟩ (G.sl g (by simp) H1.out) (G.sl g (by simp) J1.out) (G.sl g (by simp) H2.out) (G.sl g (by simp) J2.out) (G.tab g HT.out)).mono ?_
      rintro e w1 ⟨Z1, z1, R1, Z2, z2, R2, rfl, hz1, hz2, hn1, hn2⟩
      have ho1 := fun k o hk => Nat.le_trans (G.chg _).size (hn1.new k o hk)
      have ho2 := fun k o hk => Nat.le_trans (G.chg _).size (hn2.new k o hk)
      obtain ⟨g1, rfl⟩ := G.new2_ex _ hn1 hn2
      clear hn1 hn2
      (try clear g)
      revert g1
      intro g
      go_wp2_with (with_reducible refine G.any_mark _ ?_; (try generalize Array.size (World.heap (G.w _)) = bk); (try dsimp only [List.set_cons_zero, List.set_cons_succ]); (try clear g); intro g)
      refine bodyPost_ret (v := .tuple #[.agg #[.bool r.1, .slice Z1 (limbs r.2.1).length z1, .slice Z2 (limbs r.2.2.1).length z2], .int .i64 r.2.2.2]) (by simp [results, Tryz.results39, go_sem]) rfl ?_
      rw [← HRR.out, if_neg (by decide), if_neg (by decide)]
      exact ⟨Z1, z1, R1, Z2, z2, R2, rfl, hz1, hz2, G.pass _ (by simp) ho1, G.pass _ (by simp) ho2⟩
set_option maxRecDepth 20000 in
set_option maxHeartbeats 4000000 in
theorem with_div (lb : Nat) (r : Bool × Nat × Nat × Int) (s1 : Bool) (A1 B1 : Option Addr) (c1 k1 : Nat) (l1 m1 : List Nat) (s2 : Bool) (A2 B2 : Option Addr) (c2 k2 : Nat) (l2 m2 : List Nat) (w : World) (p1 : PtAt w lb 0 s1 A1 l1.length c1 B1 m1.length k1) (h1 : SlW w A1 c1 l1) (j1 : SlW w B1 k1 m1) (p2 : PtAt w lb 3 s2 A2 l2.length c2 B2 m2.length k2) (h2 : SlW w A2 c2 l2) (j2 : SlW w B2 k2 m2) (hT : Tab w)
    (hf : rchk s1 l1 m1 = 0 → rchk s2 l2 m2 = 0 → ∀ (w' : World) (bF capF : Nat), 2 ≤ capF → FrAt w' bF 0 s1 A1 l1.length c1 B1 m1.length k1 → FrAt w' bF 3 s2 A2 l2.length c2 B2 m2.length k2 → SlW w' A1 c1 l1 → SlW w' B1 k1 m1 → SlW w' A2 c2 l2 → SlW w' B2 k2 m2 → Tab w' → Calls Tryz.prog 53 #[.slice (some ⟨bF, 0, none⟩) 2 capF] w' (RPE r w')) :
    Calls Tryz.prog 39 #[.func (.func 53) #[] #[], .slice (some ⟨lb, 0, none⟩) 2 2] w (RPE (if rchk s1 l1 m1 ≠ 0 then (false, 0, 0, rchk s1 l1 m1) else if rchk s2 l2 m2 ≠ 0 then (false, 0, 0, rchk s2 l2 m2) else r) w) := by
  refine calls_b fun g => ?_
  have CK1 := Lib.hid (fun w a b t => rcheck s1 A1 B1 c1 k1 l1 m1 w a b t)
  have CO1 := Lib.hid (fun w => of_any s1 A1 B1 c1 k1 l1.length m1.length w)
  have E10 := fun (M : List Blk) (g : G w [] M [heapOf w]) => G.old g (List.mem_cons_self ..) p1.c0
  have E11 := fun (M : List Blk) (g : G w [] M [heapOf w]) => G.old g (List.mem_cons_self ..) p1.c1
  have E12 := fun (M : List Blk) (g : G w [] M [heapOf w]) => G.old g (List.mem_cons_self ..) p1.c2
  have H1 := Lib.hid h1
  have J1 := Lib.hid j1
  obtain ⟨e1, he1⟩ : ∃ e, rchk s1 l1 m1 = e := ⟨_, rfl⟩
  rw [he1] at CK1 hf ⊢
  clear p1 h1 j1 he1
  have CK2 := Lib.hid (fun w a b t => rcheck s2 A2 B2 c2 k2 l2 m2 w a b t)
  have CO2 := Lib.hid (fun w => of_any s2 A2 B2 c2 k2 l2.length m2.length w)
  have E20 := fun (M : List Blk) (g : G w [] M [heapOf w]) => G.old g (List.mem_cons_self ..) p2.c0
  have E21 := fun (M : List Blk) (g : G w [] M [heapOf w]) => G.old g (List.mem_cons_self ..) p2.c1
  have E22 := fun (M : List Blk) (g : G w [] M [heapOf w]) => G.old g (List.mem_cons_self ..) p2.c2
  have H2 := Lib.hid h2
  have J2 := Lib.hid j2
  obtain ⟨e2, he2⟩ : ∃ e, rchk s2 l2 m2 = e := ⟨_, rfl⟩
  rw [he2] at CK2 hf ⊢
  clear p2 h2 j2 he2
  have HF := Lib.hid hf
  have HT := Lib.hid hT
  obtain ⟨RR, hRR⟩ : ∃ RR, (if e1 ≠ 0 then (false, 0, 0, e1) else if e2 ≠ 0 then (false, 0, 0, e2) else r) = RR := ⟨_, rfl⟩
  rw [hRR]
  have HRR := Lib.hid hRR
  clear hf hT hRR
  generalize l1.length = n1 at *
  generalize m1.length = d1 at *
  generalize l2.length = n2 at *
  generalize m2.length = d2 at *
  obtain ⟨i0, hi, hz0, hz1, hz2⟩ := info_parts infoFr
  have HP1 := pts_one s1 A1 n1 c1 B1 d1 k1
  have HP2 := pts_one s2 A2 n2 c2 B2 d2 k2
  go_enter Tryz.func39, Tryz.ntmps39
  go_wp2_with (with_reducible refine G.any_mark _ ?_; (try generalize Array.size (World.heap (G.w _)) = bk); (try dsimp only [List.set_cons_zero, List.set_cons_succ]); (try clear g); intro g)
  obtain ⟨rb, rfl⟩ : ∃ rb, rb = bk := ⟨_, rfl⟩
  go_loopg [6, 12] 2 (fun gk s6 s12 wr => (gk = 2 ∧ s12 = .int .i64 0 ∧ s6 = .slice none 0 0 ∧ ∃ g : G w [] [(rb, 25, [.bool false, .slice none 0 0, .slice none 0 0])] [heapOf w], wr = g.w) ∨ (gk = 1 ∧ s12 = .int .i64 1 ∧ e1 = 0 ∧ ∃ b cap cs, s6 = .slice (some ⟨b, 0, none⟩) 1 cap ∧ Row 61 3 1 ([Value.bool s1, .slice A1 n1 c1, .slice B1 d1 k1]) cap cs ∧ w.heap.size ≤ b ∧ ∃ g : G w [] [(b, 61, cs), (rb, 25, [.bool false, .slice none 0 0, .slice none 0 0])] [heapOf w], wr = g.w) ∨ (gk = 0 ∧ s12 = .int .i64 2 ∧ e1 = 0 ∧ e2 = 0 ∧ ∃ b cap cs, s6 = .slice (some ⟨b, 0, none⟩) 2 cap ∧ Row 61 3 2 ([Value.bool s1, .slice A1 n1 c1, .slice B1 d1 k1] ++ [Value.bool s2, .slice A2 n2 c2, .slice B2 d2 k2]) cap cs ∧ w.heap.size ≤ b ∧ ∃ g : G w [] [(b, 61, cs), (rb, 25, [.bool false, .slice none 0 0, .slice none 0 0])] [heapOf w], wr = g.w))
  case atStart => exact .inl ⟨rfl, rfl, rfl, g, rfl⟩
  case round =>
    clear g
    rcases hrel with ⟨rfl, rfl, rfl, g, rfl⟩ | ⟨rfl, rfl, rfl, b, cap, cs, rfl, hrow, hbw, g, rfl⟩ | ⟨rfl, rfl, rfl, rfl, b, cap, cs, rfl, hrow, hbw, g, rfl⟩
    · go_wp2_with (with_reducible refine G.any_mark _ ?_; (try generalize Array.size (World.heap (G.w _)) = bk); (try dsimp only [List.set_cons_zero, List.set_cons_succ]); (try clear g); intro g)
      (try (refine cmark _ ?_; (try dsimp only [List.set_cons_zero, List.set_cons_succ]); (try clear g); intro g))
      refine (CK1.out _ (G.sl g (by simp) H1.out) (G.sl g (by simp) J1.out) (G.tab g HT.out)).mono ?_
      rintro e w1 ⟨rfl, hb⟩
      obtain ⟨g1, rfl⟩ := G.call_ex _ hb
      clear hb
      (try clear g)
      revert g1
      intro g
      by_cases hez : e1 = 0
      · subst hez
        go_wp2_with (with_reducible refine G.any_mark _ ?_; (try generalize Array.size (World.heap (G.w _)) = bk); (try dsimp only [List.set_cons_zero, List.set_cons_succ]); (try clear g); intro g)
        refine (CO1.out _).mono ?_
        rintro e w1 ⟨rfl, hb⟩
        obtain ⟨g1, rfl⟩ := G.call_ex _ hb
        clear hb
        (try clear g)
        revert g1
        intro g
        obtain ⟨g2, hg2⟩ := G.less g (M' := [(rb, 25, [.bool false, .slice none 0 0, .slice none 0 0])]) (by simp)
        rw [hg2]
        clear hg2 g
        revert g2
        intro g
        go_wp2_with (first | (with_reducible refine G.any_mark _ ?_; (try generalize Array.size (World.heap (G.w _)) = bk); (try dsimp only [List.set_cons_zero, List.set_cons_succ]); (try clear g); intro g) | (at_builtin; refine wpList_append_lit0 rfl _ _ 56 rfl 61 i0 _ 3 56 Tryz.underlying56 hi hz0 hz1 hz2 rfl (by decide) g rfl 1 rfl rfl HP1 (by decide) (by decide) (by decide) ?_; clear g; intro b cap cs g hb hrow))
        obtain ⟨g2, hg2⟩ := G.less g (M' := [(b, 61, cs), (rb, 25, [.bool false, .slice none 0 0, .slice none 0 0])]) (by simp)
        go_roundg 1
        case measure => omega
        case rel => exact .inr (.inl ⟨by simp, by simp, by simp, b, cap, cs, rfl, hrow, hb, g2, hg2⟩)
      · have hne : ((e1 : Int) == 0) = false := by rw [beq_eq_false_iff_ne]; exact hez
        have hne2 : ((e1 : Int) != 0) = true := by rw [bne, hne]; rfl
        have HEZ := Lib.hid hez
        clear hez
        go_wp2_with (with_reducible refine G.any_mark _ ?_; (try generalize Array.size (World.heap (G.w _)) = bk); (try dsimp only [List.set_cons_zero, List.set_cons_succ]); (try clear g); intro g)
        refine bodyPost_ret (v := .tuple #[.agg #[.bool false, .slice none 0 0, .slice none 0 0], .int .i64 e1]) (by simp [results, Tryz.results39, go_sem]) rfl ?_
        rw [← HRR.out, if_pos HEZ.out]
        exact rpe_err _ _
    · go_wp2_with (with_reducible refine G.any_mark _ ?_; (try generalize Array.size (World.heap (G.w _)) = bk); (try dsimp only [List.set_cons_zero, List.set_cons_succ]); (try clear g); intro g)
      (try (refine cmark _ ?_; (try dsimp only [List.set_cons_zero, List.set_cons_succ]); (try clear g); intro g))
      refine (CK2.out _ (G.sl g (by simp) H2.out) (G.sl g (by simp) J2.out) (G.tab g HT.out)).mono ?_
      rintro e w1 ⟨rfl, hb⟩
      obtain ⟨g1, rfl⟩ := G.call_ex _ hb
      clear hb
      (try clear g)
      revert g1
      intro g
      by_cases hez : e2 = 0
      · subst hez
        go_wp2_with (with_reducible refine G.any_mark _ ?_; (try generalize Array.size (World.heap (G.w _)) = bk); (try dsimp only [List.set_cons_zero, List.set_cons_succ]); (try clear g); intro g)
        refine (CO2.out _).mono ?_
        rintro e w1 ⟨rfl, hb⟩
        obtain ⟨g1, rfl⟩ := G.call_ex _ hb
        clear hb
        (try clear g)
        revert g1
        intro g
        obtain ⟨g2, hg2⟩ := G.less g (M' := [(b, 61, cs), (rb, 25, [.bool false, .slice none 0 0, .slice none 0 0])]) (by simp)
        rw [hg2]
        clear hg2 g
        revert g2
        intro g
        go_wp2_with (first | (with_reducible refine G.any_mark _ ?_; (try generalize Array.size (World.heap (G.w _)) = bk); (try dsimp only [List.set_cons_zero, List.set_cons_succ]); (try clear g); intro g) | (at_builtin; refine wpList_append_lit rfl _ _ 56 rfl 61 i0 _ 3 56 Tryz.underlying56 hi hz0 hz1 hz2 rfl (by decide) g hrow hbw rfl 1 rfl rfl HP2 (by decide) (by decide) (by decide) ?_; clear hrow hbw g; intro b cap cs g hb hrow))
        obtain ⟨g2, hg2⟩ := G.less g (M' := [(b, 61, cs), (rb, 25, [.bool false, .slice none 0 0, .slice none 0 0])]) (by simp)
        go_roundg 0
        case measure => omega
        case rel => exact .inr (.inr (⟨by simp, by simp, by simp, by simp, b, cap, cs, rfl, hrow, hb, g2, hg2⟩))
      · have hne : ((e2 : Int) == 0) = false := by rw [beq_eq_false_iff_ne]; exact hez
        have hne2 : ((e2 : Int) != 0) = true := by rw [bne, hne]; rfl
        have HEZ := Lib.hid hez
        clear hez
        go_wp2_with (with_reducible refine G.any_mark _ ?_; (try generalize Array.size (World.heap (G.w _)) = bk); (try dsimp only [List.set_cons_zero, List.set_cons_succ]); (try clear g); intro g)
        refine bodyPost_ret (v := .tuple #[.agg #[.bool false, .slice none 0 0, .slice none 0 0], .int .i64 e2]) (by simp [results, Tryz.results39, go_sem]) rfl ?_
        rw [← HRR.out, if_neg (by decide), if_pos HEZ.out]
        exact rpe_err _ _
    · go_wp2_with (with_reducible refine G.any_mark _ ?_; (try generalize Array.size (World.heap (G.w _)) = bk); (try dsimp only [List.set_cons_zero, List.set_cons_succ]); (try clear g); intro g)
      refine (HF.out (by simp) (by simp) _ b cap hrow.le ⟨row_at g (List.mem_cons_self ..) hrow (j := 0) rfl, row_at g (List.mem_cons_self ..) hrow (j := 1) rfl, row_at g (List.mem_cons_self ..) hrow (j := 2) rfl⟩ ⟨row_at g (List.mem_cons_self ..) hrow (j := 3) rfl, row_at g (List.mem_cons_self ..) hrow (j := 4) rfl, row_at g (List.mem_cons_self ..) hrow (j := 5) rfl⟩ (G.sl g (by simp) H1.out) (G.sl g (by simp) J1.out) (G.sl g (by simp) H2.out) (G.sl g (by simp) J2.out) (G.tab g HT.out)).mono ?_
      rintro e w1 ⟨Z1, z1, R1, Z2, z2, R2, rfl, hz1, hz2, hn1, hn2⟩
      have ho1 := fun k o hk => Nat.le_trans (G.chg _).size (hn1.new k o hk)
      have ho2 := fun k o hk => Nat.le_trans (G.chg _).size (hn2.new k o hk)
      obtain ⟨g1, rfl⟩ := G.new2_ex _ hn1 hn2
      clear hn1 hn2
      (try clear g)
      revert g1
      intro g
      go_wp2_with (with_reducible refine G.any_mark _ ?_; (try generalize Array.size (World.heap (G.w _)) = bk); (try dsimp only [List.set_cons_zero, List.set_cons_succ]); (try clear g); intro g)
      refine bodyPost_ret (v := .tuple #[.agg #[.bool r.1, .slice Z1 (limbs r.2.1).length z1, .slice Z2 (limbs r.2.2.1).length z2], .int .i64 r.2.2.2]) (by simp [results, Tryz.results39, go_sem]) rfl ?_
      rw [← HRR.out, if_neg (by decide), if_neg (by decide)]
      exact ⟨Z1, z1, R1, Z2, z2, R2, rfl, hz1, hz2, G.pass _ (by simp) ho1, G.pass _ (by simp) ho2⟩
end Go.Proofs.YtjdnpkicdmapnaaGreatDoor
namespace Go.Proofs.YtjdnpkicdmapnaaGreatDoor
open Go.RowKit GW NL
theorem rchk_ok {s : Bool} {l m : List Nat} (hl : Ok l) (hm : Ok m) (h : rchk s l m = 0) : l = limbs (val l) ∧ m = limbs (val m) ∧ val m ≠ 0 ∧ Nat.gcd (val l) (val m) = 1 ∧ (s = true → val l ≠ 0) ∧ l.length ≤ 256 ∧ m.length ≤ 256 := by
  unfold rchk at h
  by_cases h1 : chk l = 0
  · rw [if_neg (by omega)] at h
    by_cases h2 : chk m = 0
    · rw [if_neg (by omega)] at h
      obtain ⟨a1, a2, a3⟩ := chk_ok hl h1
      obtain ⟨b1, b2, b3⟩ := chk_ok hm h2
      by_cases h3 : val m = 0
      · rw [if_pos h3] at h; cases h
      · rw [if_neg h3] at h
        by_cases h4 : (s = true ∧ val l = 0) ∨ Nat.gcd (val l) (val m) ≠ 1
        · rw [if_pos h4] at h; cases h
        · refine ⟨a1, b1, h3, ?_, ?_, a3, b3⟩
          · exact Classical.not_not.1 fun hg => h4 (.inr hg)
          · intro hs hv; exact h4 (.inl ⟨hs, hv⟩)
    · rw [if_pos h2] at h; exact absurd h h2
  · rw [if_pos h1] at h; exact absurd h h1
/-- the rational number of parts -/
def fr (s : Bool) (l m : List Nat) : Rat := frac s (val l) (val m)
def out1 (e1 : Int) (r : Bool × Nat × Nat × Int) : Bool × Nat × Nat × Int := if e1 ≠ 0 then (false, 0, 0, e1) else r
def out2 (e1 e2 : Int) (r : Bool × Nat × Nat × Int) : Bool × Nat × Nat × Int := if e1 ≠ 0 then (false, 0, 0, e1) else if e2 ≠ 0 then (false, 0, 0, e2) else r
set_option maxRecDepth 20000 in
set_option maxHeartbeats 2000000 in
theorem qAdd_any (s1 s2 : Bool) (A1 B1 A2 B2 : Option Addr) (c1 k1 c2 k2 : Nat) (l1 m1 l2 m2 : List Nat) (w : World) (h1 : SlW w A1 c1 l1) (j1 : SlW w B1 k1 m1) (h2 : SlW w A2 c2 l2) (j2 : SlW w B2 k2 m2) (hT : Tab w) :
    Calls Tryz.prog 12 #[.agg #[.bool s1, .slice A1 l1.length c1, .slice B1 m1.length k1], .agg #[.bool s2, .slice A2 l2.length c2, .slice B2 m2.length k2]] w (RPE (out2 (rchk s1 l1 m1) (rchk s2 l2 m2) (outX (fr s1 l1 m1 + fr s2 l2 m2))) w) := by
  refine calls_b fun g => ?_
  have ol1 := h1.ok
  have om1 := j1.ok
  have ol2 := h2.ok
  have om2 := j2.ok
  have CW := Lib.hid (fun lb w p1 a1 b1 p2 a2 b2 ht => with_add lb (outX (fr s1 l1 m1 + fr s2 l2 m2)) s1 A1 B1 c1 k1 l1 m1 s2 A2 B2 c2 k2 l2 m2 w p1 a1 b1 p2 a2 b2 ht (fun r1 r2 w' bF capF hc f1 f2 x1 y1 x2 y2 t => by
    obtain ⟨e1, e2, e3, _, _, e6, e7⟩ := rchk_ok ol1 om1 r1
    obtain ⟨e1', e2', e3', _, _, e6', e7'⟩ := rchk_ok ol2 om2 r2
    have := add1_any bF capF s1 s2 A1 B1 A2 B2 c1 k1 c2 k2 (val l1) (val m1) (val l2) (val m2) w' (by rw [← e1, ← e2]; exact f1) (by rw [← e1', ← e2']; exact f2) hc (by rw [← e1]; exact x1) (by rw [← e2]; exact y1) (by rw [← e1']; exact x2) (by rw [← e2']; exact y2) t (by rw [← e1]; omega) (by rw [← e2]; omega) (by rw [← e1']; omega) (by rw [← e2']; omega) e3 e3'
    exact this))
  have HT := Lib.hid hT
  have H1 := Lib.hid h1
  have J1 := Lib.hid j1
  have H2 := Lib.hid h2
  have J2 := Lib.hid j2
  clear ol1 om1 ol2 om2 h1 j1 h2 j2 hT
  unfold out2
  obtain ⟨RR, hRR⟩ : ∃ RR, (if rchk s1 l1 m1 ≠ 0 then ((false, 0, 0, rchk s1 l1 m1) : Bool × Nat × Nat × Int) else if rchk s2 l2 m2 ≠ 0 then (false, 0, 0, rchk s2 l2 m2) else outX (fr s1 l1 m1 + fr s2 l2 m2)) = RR := ⟨_, rfl⟩
  rw [hRR] at CW ⊢
  clear hRR
  generalize l1.length = n1 at *
  generalize m1.length = d1 at *
  generalize l2.length = n2 at *
  generalize m2.length = d2 at *
  go_enter Tryz.func12, Tryz.ntmps12
  go_wp2_with (with_reducible refine G.any_mark _ ?_; (try generalize Array.size (World.heap (G.w _)) = bk); (try dsimp only [List.set_cons_zero, List.set_cons_succ]); (try clear g); intro g)
  refine (CW.out _ _ ⟨(g.cell0 0).trans rfl, (g.cell0 1).trans rfl, (g.cell0 2).trans rfl⟩ (G.sl g (by simp) H1.out) (G.sl g (by simp) J1.out) ⟨(g.cell0 3).trans rfl, (g.cell0 4).trans rfl, (g.cell0 5).trans rfl⟩ (G.sl g (by simp) H2.out) (G.sl g (by simp) J2.out) (G.tab g HT.out)).mono ?_
  rintro e w1 ⟨Z1, z1, R1, Z2, z2, R2, rfl, hz1, hz2, hn1, hn2⟩
  have ho1 := fun k o hk => Nat.le_trans (G.chg _).size (hn1.new k o hk)
  have ho2 := fun k o hk => Nat.le_trans (G.chg _).size (hn2.new k o hk)
  obtain ⟨g1, rfl⟩ := G.new2_ex _ hn1 hn2
  clear hn1 hn2
  (try clear g)
  revert g1
  intro g
  go_wp2_with (with_reducible refine G.any_mark _ ?_; (try generalize Array.size (World.heap (G.w _)) = bk); (try dsimp only [List.set_cons_zero, List.set_cons_succ]); (try clear g); intro g)
  refine bodyPost_ret (v := .tuple #[.agg #[.bool RR.1, .slice Z1 (limbs RR.2.1).length z1, .slice Z2 (limbs RR.2.2.1).length z2], .int .i64 RR.2.2.2]) (by simp [results, Tryz.results12, go_sem]) rfl ?_
  exact ⟨Z1, z1, R1, Z2, z2, R2, rfl, hz1, hz2, G.pass _ (by simp) ho1, G.pass _ (by simp) ho2⟩
set_option maxRecDepth 20000 in
set_option maxHeartbeats 2000000 in
theorem qSub_any (s1 s2 : Bool) (A1 B1 A2 B2 : Option Addr) (c1 k1 c2 k2 : Nat) (l1 m1 l2 m2 : List Nat) (w : World) (h1 : SlW w A1 c1 l1) (j1 : SlW w B1 k1 m1) (h2 : SlW w A2 c2 l2) (j2 : SlW w B2 k2 m2) (hT : Tab w) :
    Calls Tryz.prog 14 #[.agg #[.bool s1, .slice A1 l1.length c1, .slice B1 m1.length k1], .agg #[.bool s2, .slice A2 l2.length c2, .slice B2 m2.length k2]] w (RPE (out2 (rchk s1 l1 m1) (rchk s2 l2 m2) (outX (fr s1 l1 m1 - fr s2 l2 m2))) w) := by
  refine calls_b fun g => ?_
  have ol1 := h1.ok
  have om1 := j1.ok
  have ol2 := h2.ok
  have om2 := j2.ok
  have CW := Lib.hid (fun lb w p1 a1 b1 p2 a2 b2 ht => with_sub lb (outX (fr s1 l1 m1 - fr s2 l2 m2)) s1 A1 B1 c1 k1 l1 m1 s2 A2 B2 c2 k2 l2 m2 w p1 a1 b1 p2 a2 b2 ht (fun r1 r2 w' bF capF hc f1 f2 x1 y1 x2 y2 t => by
    obtain ⟨e1, e2, e3, _, _, e6, e7⟩ := rchk_ok ol1 om1 r1
    obtain ⟨e1', e2', e3', _, _, e6', e7'⟩ := rchk_ok ol2 om2 r2
    have := sub1_any bF capF s1 s2 A1 B1 A2 B2 c1 k1 c2 k2 (val l1) (val m1) (val l2) (val m2) w' (by rw [← e1, ← e2]; exact f1) (by rw [← e1', ← e2']; exact f2) hc (by rw [← e1]; exact x1) (by rw [← e2]; exact y1) (by rw [← e1']; exact x2) (by rw [← e2']; exact y2) t (by rw [← e1]; omega) (by rw [← e2]; omega) (by rw [← e1']; omega) (by rw [← e2']; omega) e3 e3'
    exact this))
  have HT := Lib.hid hT
  have H1 := Lib.hid h1
  have J1 := Lib.hid j1
  have H2 := Lib.hid h2
  have J2 := Lib.hid j2
  clear ol1 om1 ol2 om2 h1 j1 h2 j2 hT
  unfold out2
  obtain ⟨RR, hRR⟩ : ∃ RR, (if rchk s1 l1 m1 ≠ 0 then ((false, 0, 0, rchk s1 l1 m1) : Bool × Nat × Nat × Int) else if rchk s2 l2 m2 ≠ 0 then (false, 0, 0, rchk s2 l2 m2) else outX (fr s1 l1 m1 - fr s2 l2 m2)) = RR := ⟨_, rfl⟩
  rw [hRR] at CW ⊢
  clear hRR
  generalize l1.length = n1 at *
  generalize m1.length = d1 at *
  generalize l2.length = n2 at *
  generalize m2.length = d2 at *
  go_enter Tryz.func14, Tryz.ntmps14
  go_wp2_with (with_reducible refine G.any_mark _ ?_; (try generalize Array.size (World.heap (G.w _)) = bk); (try dsimp only [List.set_cons_zero, List.set_cons_succ]); (try clear g); intro g)
  refine (CW.out _ _ ⟨(g.cell0 0).trans rfl, (g.cell0 1).trans rfl, (g.cell0 2).trans rfl⟩ (G.sl g (by simp) H1.out) (G.sl g (by simp) J1.out) ⟨(g.cell0 3).trans rfl, (g.cell0 4).trans rfl, (g.cell0 5).trans rfl⟩ (G.sl g (by simp) H2.out) (G.sl g (by simp) J2.out) (G.tab g HT.out)).mono ?_
  rintro e w1 ⟨Z1, z1, R1, Z2, z2, R2, rfl, hz1, hz2, hn1, hn2⟩
  have ho1 := fun k o hk => Nat.le_trans (G.chg _).size (hn1.new k o hk)
  have ho2 := fun k o hk => Nat.le_trans (G.chg _).size (hn2.new k o hk)
  obtain ⟨g1, rfl⟩ := G.new2_ex _ hn1 hn2
  clear hn1 hn2
  (try clear g)
  revert g1
  intro g
  go_wp2_with (with_reducible refine G.any_mark _ ?_; (try generalize Array.size (World.heap (G.w _)) = bk); (try dsimp only [List.set_cons_zero, List.set_cons_succ]); (try clear g); intro g)
  refine bodyPost_ret (v := .tuple #[.agg #[.bool RR.1, .slice Z1 (limbs RR.2.1).length z1, .slice Z2 (limbs RR.2.2.1).length z2], .int .i64 RR.2.2.2]) (by simp [results, Tryz.results14, go_sem]) rfl ?_
  exact ⟨Z1, z1, R1, Z2, z2, R2, rfl, hz1, hz2, G.pass _ (by simp) ho1, G.pass _ (by simp) ho2⟩
set_option maxRecDepth 20000 in
set_option maxHeartbeats 2000000 in
theorem qMul_any (s1 s2 : Bool) (A1 B1 A2 B2 : Option Addr) (c1 k1 c2 k2 : Nat) (l1 m1 l2 m2 : List Nat) (w : World) (h1 : SlW w A1 c1 l1) (j1 : SlW w B1 k1 m1) (h2 : SlW w A2 c2 l2) (j2 : SlW w B2 k2 m2) (hT : Tab w) :
    Calls Tryz.prog 16 #[.agg #[.bool s1, .slice A1 l1.length c1, .slice B1 m1.length k1], .agg #[.bool s2, .slice A2 l2.length c2, .slice B2 m2.length k2]] w (RPE (out2 (rchk s1 l1 m1) (rchk s2 l2 m2) (outX (fr s1 l1 m1 * fr s2 l2 m2))) w) := by
  refine calls_b fun g => ?_
  have ol1 := h1.ok
  have om1 := j1.ok
  have ol2 := h2.ok
  have om2 := j2.ok
  have CW := Lib.hid (fun lb w p1 a1 b1 p2 a2 b2 ht => with_mul lb (outX (fr s1 l1 m1 * fr s2 l2 m2)) s1 A1 B1 c1 k1 l1 m1 s2 A2 B2 c2 k2 l2 m2 w p1 a1 b1 p2 a2 b2 ht (fun r1 r2 w' bF capF hc f1 f2 x1 y1 x2 y2 t => by
    obtain ⟨e1, e2, e3, _, _, e6, e7⟩ := rchk_ok ol1 om1 r1
    obtain ⟨e1', e2', e3', _, _, e6', e7'⟩ := rchk_ok ol2 om2 r2
    have := mul1_any bF capF s1 s2 A1 B1 A2 B2 c1 k1 c2 k2 (val l1) (val m1) (val l2) (val m2) w' (by rw [← e1, ← e2]; exact f1) (by rw [← e1', ← e2']; exact f2) hc (by rw [← e1]; exact x1) (by rw [← e2]; exact y1) (by rw [← e1']; exact x2) (by rw [← e2']; exact y2) t (by rw [← e1]; omega) (by rw [← e2]; omega) (by rw [← e1']; omega) (by rw [← e2']; omega) e3 e3'
    exact this))
  have HT := Lib.hid hT
  have H1 := Lib.hid h1
  have J1 := Lib.hid j1
  have H2 := Lib.hid h2
  have J2 := Lib.hid j2
  clear ol1 om1 ol2 om2 h1 j1 h2 j2 hT
  unfold out2
  obtain ⟨RR, hRR⟩ : ∃ RR, (if rchk s1 l1 m1 ≠ 0 then ((false, 0, 0, rchk s1 l1 m1) : Bool × Nat × Nat × Int) else if rchk s2 l2 m2 ≠ 0 then (false, 0, 0, rchk s2 l2 m2) else outX (fr s1 l1 m1 * fr s2 l2 m2)) = RR := ⟨_, rfl⟩
  rw [hRR] at CW ⊢
  clear hRR
  generalize l1.length = n1 at *
  generalize m1.length = d1 at *
  generalize l2.length = n2 at *
  generalize m2.length = d2 at *
  go_enter Tryz.func16, Tryz.ntmps16
  go_wp2_with (with_reducible refine G.any_mark _ ?_; (try generalize Array.size (World.heap (G.w _)) = bk); (try dsimp only [List.set_cons_zero, List.set_cons_succ]); (try clear g); intro g)
  refine (CW.out _ _ ⟨(g.cell0 0).trans rfl, (g.cell0 1).trans rfl, (g.cell0 2).trans rfl⟩ (G.sl g (by simp) H1.out) (G.sl g (by simp) J1.out) ⟨(g.cell0 3).trans rfl, (g.cell0 4).trans rfl, (g.cell0 5).trans rfl⟩ (G.sl g (by simp) H2.out) (G.sl g (by simp) J2.out) (G.tab g HT.out)).mono ?_
  rintro e w1 ⟨Z1, z1, R1, Z2, z2, R2, rfl, hz1, hz2, hn1, hn2⟩
  have ho1 := fun k o hk => Nat.le_trans (G.chg _).size (hn1.new k o hk)
  have ho2 := fun k o hk => Nat.le_trans (G.chg _).size (hn2.new k o hk)
  obtain ⟨g1, rfl⟩ := G.new2_ex _ hn1 hn2
  clear hn1 hn2
  (try clear g)
  revert g1
  intro g
  go_wp2_with (with_reducible refine G.any_mark _ ?_; (try generalize Array.size (World.heap (G.w _)) = bk); (try dsimp only [List.set_cons_zero, List.set_cons_succ]); (try clear g); intro g)
  refine bodyPost_ret (v := .tuple #[.agg #[.bool RR.1, .slice Z1 (limbs RR.2.1).length z1, .slice Z2 (limbs RR.2.2.1).length z2], .int .i64 RR.2.2.2]) (by simp [results, Tryz.results16, go_sem]) rfl ?_
  exact ⟨Z1, z1, R1, Z2, z2, R2, rfl, hz1, hz2, G.pass _ (by simp) ho1, G.pass _ (by simp) ho2⟩
end Go.Proofs.YtjdnpkicdmapnaaGreatDoor
namespace Go.Proofs.YtjdnpkicdmapnaaGreatDoor
open Go.RowKit GW NL
theorem limbs_len0 : (limbs 0).length = 0 := by rw [limbs_zero]; rfl
/-- the quotient, or ErrZero -/
def divX (x y : Rat) (z : Nat) : Bool × Nat × Nat × Int := if z = 0 then (false, 0, 0, 6) else outX (x / y)
set_option maxRecDepth 20000 in
set_option maxHeartbeats 4000000 in
theorem divz_any (b cap : Nat) (s1 s2 : Bool) (A1 B1 A2 B2 : Option Addr) (c1 k1 c2 k2 n1 d1 n2 d2 : Nat) (w : World) (f1 : FrAt w b 0 s1 A1 n1 c1 B1 d1 k1) (f2 : FrAt w b 3 s2 A2 n2 c2 B2 d2 k2) (hcap : 2 ≤ cap) (hz : n2 = 0) :
    Calls Tryz.prog 53 #[.slice (some ⟨b, 0, none⟩) 2 cap] w (RPE (false, 0, 0, 6) w) := by
  subst hz
  refine calls_b fun g => ?_
  have E4 := fun (M : List Blk) (g : G w [] M [heapOf w]) => G.old g (List.mem_cons_self ..) f2.c1
  clear f1 f2
  have hcap2 : (2 : Int) ≤ (cap : Int) := by omega
  go_enter Tryz.func53, Tryz.ntmps53
  go_wp2_with (with_reducible refine G.any_mark _ ?_; (try generalize Array.size (World.heap (G.w _)) = bk); (try dsimp only [List.set_cons_zero, List.set_cons_succ]); (try clear g); intro g)
  refine bodyPost_ret (v := .tuple #[.agg #[.bool false, .slice none 0 0, .slice none 0 0], .int .i64 6]) (by simp [results, Tryz.results53, go_sem]) rfl ?_
  exact rpe_err _ _
set_option maxRecDepth 20000 in
set_option maxHeartbeats 2000000 in
theorem qDiv_any (s1 s2 : Bool) (A1 B1 A2 B2 : Option Addr) (c1 k1 c2 k2 : Nat) (l1 m1 l2 m2 : List Nat) (w : World) (h1 : SlW w A1 c1 l1) (j1 : SlW w B1 k1 m1) (h2 : SlW w A2 c2 l2) (j2 : SlW w B2 k2 m2) (hT : Tab w) :
    Calls Tryz.prog 18 #[.agg #[.bool s1, .slice A1 l1.length c1, .slice B1 m1.length k1], .agg #[.bool s2, .slice A2 l2.length c2, .slice B2 m2.length k2]] w (RPE (out2 (rchk s1 l1 m1) (rchk s2 l2 m2) (divX (fr s1 l1 m1) (fr s2 l2 m2) (val l2))) w) := by
  refine calls_b fun g => ?_
  have ol1 := h1.ok
  have om1 := j1.ok
  have ol2 := h2.ok
  have om2 := j2.ok
  have CW := Lib.hid (fun lb w p1 a1 b1 p2 a2 b2 ht => with_div lb (divX (fr s1 l1 m1) (fr s2 l2 m2) (val l2)) s1 A1 B1 c1 k1 l1 m1 s2 A2 B2 c2 k2 l2 m2 w p1 a1 b1 p2 a2 b2 ht (fun r1 r2 w' bF capF hc f1 f2 x1 y1 x2 y2 t => by
    obtain ⟨e1, e2, e3, _, _, e6, e7⟩ := rchk_ok ol1 om1 r1
    obtain ⟨e1', e2', e3', _, _, e6', e7'⟩ := rchk_ok ol2 om2 r2
    by_cases hz : val l2 = 0
    · have := divz_any bF capF s1 s2 A1 B1 A2 B2 c1 k1 c2 k2 l1.length m1.length l2.length m2.length w' f1 f2 hc (by rw [e1', hz]; exact limbs_len0)
      rw [divX, if_pos hz]
      exact this
    · rw [divX, if_neg hz]
      have := div1_any bF capF s1 s2 A1 B1 A2 B2 c1 k1 c2 k2 (val l1) (val m1) (val l2) (val m2) w' (by rw [← e1, ← e2]; exact f1) (by rw [← e1', ← e2']; exact f2) hc (by rw [← e1]; exact x1) (by rw [← e2]; exact y1) (by rw [← e1']; exact x2) (by rw [← e2']; exact y2) t (by rw [← e1]; omega) (by rw [← e2]; omega) (by rw [← e1']; omega) (by rw [← e2']; omega) e3 e3' hz
      exact this))
  have HT := Lib.hid hT
  have H1 := Lib.hid h1
  have J1 := Lib.hid j1
  have H2 := Lib.hid h2
  have J2 := Lib.hid j2
  clear ol1 om1 ol2 om2 h1 j1 h2 j2 hT
  unfold out2
  obtain ⟨RR, hRR⟩ : ∃ RR, (if rchk s1 l1 m1 ≠ 0 then ((false, 0, 0, rchk s1 l1 m1) : Bool × Nat × Nat × Int) else if rchk s2 l2 m2 ≠ 0 then (false, 0, 0, rchk s2 l2 m2) else divX (fr s1 l1 m1) (fr s2 l2 m2) (val l2)) = RR := ⟨_, rfl⟩
  rw [hRR] at CW ⊢
  clear hRR
  generalize l1.length = n1 at *
  generalize m1.length = d1 at *
  generalize l2.length = n2 at *
  generalize m2.length = d2 at *
  go_enter Tryz.func18, Tryz.ntmps18
  go_wp2_with (with_reducible refine G.any_mark _ ?_; (try generalize Array.size (World.heap (G.w _)) = bk); (try dsimp only [List.set_cons_zero, List.set_cons_succ]); (try clear g); intro g)
  refine (CW.out _ _ ⟨(g.cell0 0).trans rfl, (g.cell0 1).trans rfl, (g.cell0 2).trans rfl⟩ (G.sl g (by simp) H1.out) (G.sl g (by simp) J1.out) ⟨(g.cell0 3).trans rfl, (g.cell0 4).trans rfl, (g.cell0 5).trans rfl⟩ (G.sl g (by simp) H2.out) (G.sl g (by simp) J2.out) (G.tab g HT.out)).mono ?_
  rintro e w1 ⟨Z1, z1, R1, Z2, z2, R2, rfl, hz1, hz2, hn1, hn2⟩
  have ho1 := fun k o hk => Nat.le_trans (G.chg _).size (hn1.new k o hk)
  have ho2 := fun k o hk => Nat.le_trans (G.chg _).size (hn2.new k o hk)
  obtain ⟨g1, rfl⟩ := G.new2_ex _ hn1 hn2
  clear hn1 hn2
  (try clear g)
  revert g1
  intro g
  go_wp2_with (with_reducible refine G.any_mark _ ?_; (try generalize Array.size (World.heap (G.w _)) = bk); (try dsimp only [List.set_cons_zero, List.set_cons_succ]); (try clear g); intro g)
  refine bodyPost_ret (v := .tuple #[.agg #[.bool RR.1, .slice Z1 (limbs RR.2.1).length z1, .slice Z2 (limbs RR.2.2.1).length z2], .int .i64 RR.2.2.2]) (by simp [results, Tryz.results18, go_sem]) rfl ?_
  exact ⟨Z1, z1, R1, Z2, z2, R2, rfl, hz1, hz2, G.pass _ (by simp) ho1, G.pass _ (by simp) ho2⟩
set_option maxRecDepth 20000 in
set_option maxHeartbeats 2000000 in
theorem qNeg_any (s1 : Bool) (A1 B1 : Option Addr) (c1 k1 : Nat) (l1 m1 : List Nat) (w : World) (h1 : SlW w A1 c1 l1) (j1 : SlW w B1 k1 m1) (hT : Tab w) :
    Calls Tryz.prog 10 #[.agg #[.bool s1, .slice A1 l1.length c1, .slice B1 m1.length k1]] w (RPE (out1 (rchk s1 l1 m1) (outP (!s1 && decide (0 < l1.length)) (val l1) (val m1))) w) := by
  refine calls_b fun g => ?_
  have ol1 := h1.ok
  have om1 := j1.ok
  have CW := Lib.hid (fun lb w p1 a1 b1 ht => with_neg lb (outP (!s1 && decide (0 < l1.length)) (val l1) (val m1)) s1 A1 B1 c1 k1 l1 m1 w p1 a1 b1 ht (fun r1 w' bF capF hc f1 x1 y1 t => by
    obtain ⟨e1, e2, e3, _, e5, e6, e7⟩ := rchk_ok ol1 om1 r1
    have := neg1_any bF capF s1 A1 B1 c1 k1 (val l1) (val m1) w' (by rw [← e1, ← e2]; exact f1) hc (by rw [← e1]; exact x1) (by rw [← e2]; exact y1) t (by rw [← e1]; omega) (by rw [← e2]; omega) e3
    (try rw [← e1] at this)
    exact this))
  have HT := Lib.hid hT
  have H1 := Lib.hid h1
  have J1 := Lib.hid j1
  clear ol1 om1 h1 j1 hT
  unfold out1
  obtain ⟨RR, hRR⟩ : ∃ RR, (if rchk s1 l1 m1 ≠ 0 then ((false, 0, 0, rchk s1 l1 m1) : Bool × Nat × Nat × Int) else outP (!s1 && decide (0 < l1.length)) (val l1) (val m1)) = RR := ⟨_, rfl⟩
  rw [hRR] at CW ⊢
  clear hRR
  generalize l1.length = n1 at *
  generalize m1.length = d1 at *
  go_enter Tryz.func10, Tryz.ntmps10
  go_wp2_with (with_reducible refine G.any_mark _ ?_; (try generalize Array.size (World.heap (G.w _)) = bk); (try dsimp only [List.set_cons_zero, List.set_cons_succ]); (try clear g); intro g)
  refine (CW.out _ _ ⟨(g.cell0 0).trans rfl, (g.cell0 1).trans rfl, (g.cell0 2).trans rfl⟩ (G.sl g (by simp) H1.out) (G.sl g (by simp) J1.out) (G.tab g HT.out)).mono ?_
  rintro e w1 ⟨Z1, z1, R1, Z2, z2, R2, rfl, hz1, hz2, hn1, hn2⟩
  have ho1 := fun k o hk => Nat.le_trans (G.chg _).size (hn1.new k o hk)
  have ho2 := fun k o hk => Nat.le_trans (G.chg _).size (hn2.new k o hk)
  obtain ⟨g1, rfl⟩ := G.new2_ex _ hn1 hn2
  clear hn1 hn2
  (try clear g)
  revert g1
  intro g
  go_wp2_with (with_reducible refine G.any_mark _ ?_; (try generalize Array.size (World.heap (G.w _)) = bk); (try dsimp only [List.set_cons_zero, List.set_cons_succ]); (try clear g); intro g)
  refine bodyPost_ret (v := .tuple #[.agg #[.bool RR.1, .slice Z1 (limbs RR.2.1).length z1, .slice Z2 (limbs RR.2.2.1).length z2], .int .i64 RR.2.2.2]) (by simp [results, Tryz.results10, go_sem]) rfl ?_
  exact ⟨Z1, z1, R1, Z2, z2, R2, rfl, hz1, hz2, G.pass _ (by simp) ho1, G.pass _ (by simp) ho2⟩
set_option maxRecDepth 20000 in
set_option maxHeartbeats 2000000 in
theorem qFloor_any (s1 : Bool) (A1 B1 : Option Addr) (c1 k1 : Nat) (l1 m1 : List Nat) (w : World) (h1 : SlW w A1 c1 l1) (j1 : SlW w B1 k1 m1) (hT : Tab w) :
    Calls Tryz.prog 35 #[.agg #[.bool s1, .slice A1 l1.length c1, .slice B1 m1.length k1]] w (RPE (out1 (rchk s1 l1 m1) (outP (s1 && decide (flq s1 (val l1) (val m1) ≠ 0)) (flq s1 (val l1) (val m1)) 1)) w) := by
  refine calls_b fun g => ?_
  have ol1 := h1.ok
  have om1 := j1.ok
  have CW := Lib.hid (fun lb w p1 a1 b1 ht => with_floor lb (outP (s1 && decide (flq s1 (val l1) (val m1) ≠ 0)) (flq s1 (val l1) (val m1)) 1) s1 A1 B1 c1 k1 l1 m1 w p1 a1 b1 ht (fun r1 w' bF capF hc f1 x1 y1 t => by
    obtain ⟨e1, e2, e3, _, e5, e6, e7⟩ := rchk_ok ol1 om1 r1
    have := floor1_any bF capF s1 A1 B1 c1 k1 (val l1) (val m1) w' (by rw [← e1, ← e2]; exact f1) hc (by rw [← e1]; exact x1) (by rw [← e2]; exact y1) t (by rw [← e1]; omega) (by rw [← e2]; omega) e3
    (try rw [← e1] at this)
    exact this))
  have HT := Lib.hid hT
  have H1 := Lib.hid h1
  have J1 := Lib.hid j1
  clear ol1 om1 h1 j1 hT
  unfold out1
  obtain ⟨RR, hRR⟩ : ∃ RR, (if rchk s1 l1 m1 ≠ 0 then ((false, 0, 0, rchk s1 l1 m1) : Bool × Nat × Nat × Int) else outP (s1 && decide (flq s1 (val l1) (val m1) ≠ 0)) (flq s1 (val l1) (val m1)) 1) = RR := ⟨_, rfl⟩
  rw [hRR] at CW ⊢
  clear hRR
  generalize l1.length = n1 at *
  generalize m1.length = d1 at *
  go_enter Tryz.func35, Tryz.ntmps35
  go_wp2_with (with_reducible refine G.any_mark _ ?_; (try generalize Array.size (World.heap (G.w _)) = bk); (try dsimp only [List.set_cons_zero, List.set_cons_succ]); (try clear g); intro g)
  refine (CW.out _ _ ⟨(g.cell0 0).trans rfl, (g.cell0 1).trans rfl, (g.cell0 2).trans rfl⟩ (G.sl g (by simp) H1.out) (G.sl g (by simp) J1.out) (G.tab g HT.out)).mono ?_
  rintro e w1 ⟨Z1, z1, R1, Z2, z2, R2, rfl, hz1, hz2, hn1, hn2⟩
  have ho1 := fun k o hk => Nat.le_trans (G.chg _).size (hn1.new k o hk)
  have ho2 := fun k o hk => Nat.le_trans (G.chg _).size (hn2.new k o hk)
  obtain ⟨g1, rfl⟩ := G.new2_ex _ hn1 hn2
  clear hn1 hn2
  (try clear g)
  revert g1
  intro g
  go_wp2_with (with_reducible refine G.any_mark _ ?_; (try generalize Array.size (World.heap (G.w _)) = bk); (try dsimp only [List.set_cons_zero, List.set_cons_succ]); (try clear g); intro g)
  refine bodyPost_ret (v := .tuple #[.agg #[.bool RR.1, .slice Z1 (limbs RR.2.1).length z1, .slice Z2 (limbs RR.2.2.1).length z2], .int .i64 RR.2.2.2]) (by simp [results, Tryz.results35, go_sem]) rfl ?_
  exact ⟨Z1, z1, R1, Z2, z2, R2, rfl, hz1, hz2, G.pass _ (by simp) ho1, G.pass _ (by simp) ho2⟩
set_option maxRecDepth 20000 in
set_option maxHeartbeats 2000000 in
theorem qRound_any (s1 : Bool) (A1 B1 : Option Addr) (c1 k1 : Nat) (l1 m1 : List Nat) (w : World) (h1 : SlW w A1 c1 l1) (j1 : SlW w B1 k1 m1) (hT : Tab w) :
    Calls Tryz.prog 36 #[.agg #[.bool s1, .slice A1 l1.length c1, .slice B1 m1.length k1]] w (RPE (out1 (rchk s1 l1 m1) (outP (s1 && decide (rdq (val l1) (val m1) ≠ 0)) (rdq (val l1) (val m1)) 1)) w) := by
  refine calls_b fun g => ?_
  have ol1 := h1.ok
  have om1 := j1.ok
  have CW := Lib.hid (fun lb w p1 a1 b1 ht => with_round lb (outP (s1 && decide (rdq (val l1) (val m1) ≠ 0)) (rdq (val l1) (val m1)) 1) s1 A1 B1 c1 k1 l1 m1 w p1 a1 b1 ht (fun r1 w' bF capF hc f1 x1 y1 t => by
    obtain ⟨e1, e2, e3, _, e5, e6, e7⟩ := rchk_ok ol1 om1 r1
    have := round1_any bF capF s1 A1 B1 c1 k1 (val l1) (val m1) w' (by rw [← e1, ← e2]; exact f1) hc (by rw [← e1]; exact x1) (by rw [← e2]; exact y1) t (by rw [← e1]; omega) (by rw [← e2]; omega) e3
    (try rw [← e1] at this)
    exact this))
  have HT := Lib.hid hT
  have H1 := Lib.hid h1
  have J1 := Lib.hid j1
  clear ol1 om1 h1 j1 hT
  unfold out1
  obtain ⟨RR, hRR⟩ : ∃ RR, (if rchk s1 l1 m1 ≠ 0 then ((false, 0, 0, rchk s1 l1 m1) : Bool × Nat × Nat × Int) else outP (s1 && decide (rdq (val l1) (val m1) ≠ 0)) (rdq (val l1) (val m1)) 1) = RR := ⟨_, rfl⟩
  rw [hRR] at CW ⊢
  clear hRR
  generalize l1.length = n1 at *
  generalize m1.length = d1 at *
  go_enter Tryz.func36, Tryz.ntmps36
  go_wp2_with (with_reducible refine G.any_mark _ ?_; (try generalize Array.size (World.heap (G.w _)) = bk); (try dsimp only [List.set_cons_zero, List.set_cons_succ]); (try clear g); intro g)
  refine (CW.out _ _ ⟨(g.cell0 0).trans rfl, (g.cell0 1).trans rfl, (g.cell0 2).trans rfl⟩ (G.sl g (by simp) H1.out) (G.sl g (by simp) J1.out) (G.tab g HT.out)).mono ?_
  rintro e w1 ⟨Z1, z1, R1, Z2, z2, R2, rfl, hz1, hz2, hn1, hn2⟩
  have ho1 := fun k o hk => Nat.le_trans (G.chg _).size (hn1.new k o hk)
  have ho2 := fun k o hk => Nat.le_trans (G.chg _).size (hn2.new k o hk)
  obtain ⟨g1, rfl⟩ := G.new2_ex _ hn1 hn2
  clear hn1 hn2
  (try clear g)
  revert g1
  intro g
  go_wp2_with (with_reducible refine G.any_mark _ ?_; (try generalize Array.size (World.heap (G.w _)) = bk); (try dsimp only [List.set_cons_zero, List.set_cons_succ]); (try clear g); intro g)
  refine bodyPost_ret (v := .tuple #[.agg #[.bool RR.1, .slice Z1 (limbs RR.2.1).length z1, .slice Z2 (limbs RR.2.2.1).length z2], .int .i64 RR.2.2.2]) (by simp [results, Tryz.results36, go_sem]) rfl ?_
  exact ⟨Z1, z1, R1, Z2, z2, R2, rfl, hz1, hz2, G.pass _ (by simp) ho1, G.pass _ (by simp) ho2⟩
end Go.Proofs.YtjdnpkicdmapnaaGreatDoor
namespace Go.Proofs.YtjdnpkicdmapnaaGreatDoor
open Go.RowKit GW NL
theorem isone_any (A : Option Addr) (c : Nat) (v : Nat) (w : World) (h : SlW w A c (limbs v)) :
    Calls Tryz.prog 63 #[.slice A (limbs v).length c] w fun e w' => e = .returned (.bool (decide (v = 1))) ∧ w = w' := by
  have hm := h.len
  by_cases h1 : (limbs v).length = 1
  · obtain ⟨b, o, rfl, hcell⟩ := limW_cell h.lim (by omega)
    have e1 := hcell 0 (by omega)
    clear hcell h
    have hv : (limbs v).getD 0 0 = v := by
      have := val_limbs v
      obtain ⟨x, hx⟩ := List.length_eq_one_iff.1 h1
      rw [hx] at this ⊢
      simpa [val] using this
    rw [hv] at e1
    rw [h1]
    simp only [Nat.add_zero] at e1
    by_cases hx : v = 1
    · subst hx
      go_enter Tryz.func63, Tryz.ntmps63
      go_wp2_with fail
      go_ret
      exact ⟨rfl, rfl⟩
    · have hd : decide (v = 1) = false := decide_eq_false hx
      rw [hd]
      have hx1 : (((v : Nat) : Int) == 1) = false := by simp only [beq_eq_false_iff_ne, ne_eq]; omega
      clear hx hd hv h1 hm
      generalize ((v : Nat) : Int) = u at *
      go_enter Tryz.func63, Tryz.ntmps63
      go_wp2_with fail
      go_ret
      exact ⟨rfl, rfl⟩
  · have hv : v ≠ 1 := by
      rintro rfl
      rw [limbs_one (by decide) (by decide)] at h1
      exact h1 rfl
    rw [decide_eq_false hv]
    have hl1 : (((limbs v).length : Int) == 1) = false := by simp only [beq_eq_false_iff_ne, ne_eq]; omega
    generalize (limbs v).length = n at *
    go_enter Tryz.func63, Tryz.ntmps63
    go_wp2_with fail
    go_ret
    exact ⟨rfl, rfl⟩
theorem rOrder_any (A1 A2 : Option Addr) (c1 c2 a b : Nat) (w : World) (h1 : SlW w A1 c1 (limbs a)) (h2 : SlW w A2 c2 (limbs b)) (hl9 : (limbs a).length ≤ 1000000000) :
    Calls Tryz.prog 90 #[.slice A1 (limbs a).length c1, .slice A2 (limbs b).length c2] w fun e w' => e = .returned (.int .i64 (ord a b)) ∧ Below w.heap.size w w' := by
  refine calls_b fun g => ?_
  have C1 := Lib.hid (fun w h1 h2 => rcmp_any A1 A2 c1 c2 a b w h1 h2 hl9)
  generalize (limbs a).length = n1 at *
  generalize (limbs b).length = n2 at *
  generalize ord a b = r at *
  go_enter Tryz.func90, Tryz.ntmps90
  go_wp2_with (with_reducible refine G.any_mark _ ?_; (try generalize Array.size (World.heap (G.w _)) = bk); (try dsimp only [List.set_cons_zero, List.set_cons_succ]); (try clear g); intro g)
  refine (C1.out _ (G.sl g (by simp) h1) (G.sl g (by simp) h2)).mono ?_
  rintro e w1 ⟨rfl, hb⟩
  obtain ⟨g1, rfl⟩ := G.call_ex _ hb
  clear hb
  (try clear g)
  revert g1
  intro g
  go_wp2_with (with_reducible refine G.any_mark _ ?_; (try generalize Array.size (World.heap (G.w _)) = bk); (try dsimp only [List.set_cons_zero, List.set_cons_succ]); (try clear g); intro g)
  go_ret
  exact ⟨rfl, G.below _⟩
theorem rTimes_any (A1 A2 : Option Addr) (c1 c2 a b : Nat) (w : World) (h1 : SlW w A1 c1 (limbs a)) (h2 : SlW w A2 c2 (limbs b)) (hl1 : (limbs a).length ≤ 1000000000) (hl2 : (limbs b).length ≤ 1000000000) :
    Calls Tryz.prog 88 #[.slice A1 (limbs a).length c1, .slice A2 (limbs b).length c2] w (RNat (a * b) w) := by
  refine calls_b fun g => ?_
  have C1 := Lib.hid (fun w h1 h2 => rmul_any A1 A2 c1 c2 (limbs a) (limbs b) w h1 h2 hl1 hl2)
  rw [val_limbs, val_limbs] at C1
  generalize (limbs a).length = n1 at *
  generalize (limbs b).length = n2 at *
  generalize a * b = r at *
  go_enter Tryz.func88, Tryz.ntmps88
  go_wp2_with (with_reducible refine G.any_mark _ ?_; (try generalize Array.size (World.heap (G.w _)) = bk); (try dsimp only [List.set_cons_zero, List.set_cons_succ]); (try clear g); intro g)
  refine (C1.out _ (G.sl g (by simp) h1) (G.sl g (by simp) h2)).mono ?_
  rintro e w1 ⟨X, x, P, rfl, hx, hn⟩
  have ho := fun k o hk => Nat.le_trans (G.chg _).size (hn.new k o hk)
  obtain ⟨g1, rfl⟩ := G.new_ex _ hn
  clear hn
  (try clear g)
  revert g1
  intro g
  go_wp2_with (with_reducible refine G.any_mark _ ?_; (try generalize Array.size (World.heap (G.w _)) = bk); (try dsimp only [List.set_cons_zero, List.set_cons_succ]); (try clear g); intro g)
  go_ret
  exact ⟨X, x, P, rfl, hx, G.pass _ (by simp) ho⟩
theorem rone_any (w : World) : Calls Tryz.prog 73 #[] w (RNat 1 w) := by
  refine calls_b fun g => ?_
  go_enter Tryz.func73, Tryz.ntmps73
  go_wp2_with (with_reducible refine G.any_mark _ ?_; (try generalize Array.size (World.heap (G.w _)) = bk); (try dsimp only [List.set_cons_zero, List.set_cons_succ]); (try clear g); intro g)
  go_ret
  have h1 : limbs 1 = [1] := limbs_one (by decide) (by decide)
  refine ⟨some ⟨_, 0, none⟩, 1, _, by rw [h1]; rfl, ?_, g.give (List.mem_cons_self ..)⟩
  rw [h1]
  exact sl_blk (l := [1]) (by simp) (by decide) (by intro x hx; simp at hx; omega)
end Go.Proofs.YtjdnpkicdmapnaaGreatDoor
namespace Go.Proofs.YtjdnpkicdmapnaaGreatDoor
open Go.RowKit GW NL
theorem rPlus3_any (A1 A2 : Option Addr) (c1 c2 a b : Nat) (w : World) (h1 : SlW w A1 c1 (limbs a)) (h2 : SlW w A2 c2 (limbs b)) (hl1 : (limbs a).length ≤ 100000000) (hl2 : (limbs b).length ≤ 100000000) :
    Calls Tryz.prog 89 #[.slice A1 (limbs a).length c1, .slice A2 (limbs b).length c2] w (RNat (a + b) w) := by
  refine calls_b fun g => ?_
  have C1 := Lib.hid (fun w h1 h2 => radd_any A1 A2 c1 c2 a b w h1 h2 (by omega) (by omega))
  generalize (limbs a).length = n1 at *
  generalize (limbs b).length = n2 at *
  generalize a + b = r at *
  go_enter Tryz.func89, Tryz.ntmps89
  go_wp2_with (with_reducible refine G.any_mark _ ?_; (try generalize Array.size (World.heap (G.w _)) = bk); (try dsimp only [List.set_cons_zero, List.set_cons_succ]); (try clear g); intro g)
  refine (C1.out _ (G.sl g (by simp) h1) (G.sl g (by simp) h2)).mono ?_
  rintro e w1 ⟨X, x, P, rfl, hx, hn⟩
  have ho := fun k o hk => Nat.le_trans (G.chg _).size (hn.new k o hk)
  obtain ⟨g1, rfl⟩ := G.new_ex _ hn
  clear hn
  (try clear g)
  revert g1
  intro g
  go_wp2_with (with_reducible refine G.any_mark _ ?_; (try generalize Array.size (World.heap (G.w _)) = bk); (try dsimp only [List.set_cons_zero, List.set_cons_succ]); (try clear g); intro g)
  go_ret
  exact ⟨X, x, P, rfl, hx, G.pass _ (by simp) ho⟩
theorem rLess3_any (A1 A2 : Option Addr) (c1 c2 a b : Nat) (w : World) (h1 : SlW w A1 c1 (limbs a)) (h2 : SlW w A2 c2 (limbs b)) (hl1 : (limbs a).length ≤ 100000000) (hle : b ≤ a) :
    Calls Tryz.prog 91 #[.slice A1 (limbs a).length c1, .slice A2 (limbs b).length c2] w (RNat (a - b) w) := by
  refine calls_b fun g => ?_
  have C1 := Lib.hid (fun w h1 h2 => rsub_any A1 A2 c1 c2 (limbs a) (limbs b) w h1 h2 (by omega) (limbs_len_mono hle) (by rw [val_limbs, val_limbs]; exact hle))
  rw [val_limbs, val_limbs] at C1
  generalize (limbs a).length = n1 at *
  generalize (limbs b).length = n2 at *
  generalize a - b = r at *
  go_enter Tryz.func91, Tryz.ntmps91
  go_wp2_with (with_reducible refine G.any_mark _ ?_; (try generalize Array.size (World.heap (G.w _)) = bk); (try dsimp only [List.set_cons_zero, List.set_cons_succ]); (try clear g); intro g)
  refine (C1.out _ (G.sl g (by simp) h1) (G.sl g (by simp) h2)).mono ?_
  rintro e w1 ⟨X, x, P, rfl, hx, hn⟩
  have ho := fun k o hk => Nat.le_trans (G.chg _).size (hn.new k o hk)
  obtain ⟨g1, rfl⟩ := G.new_ex _ hn
  clear hn
  (try clear g)
  revert g1
  intro g
  go_wp2_with (with_reducible refine G.any_mark _ ?_; (try generalize Array.size (World.heap (G.w _)) = bk); (try dsimp only [List.set_cons_zero, List.set_cons_succ]); (try clear g); intro g)
  go_ret
  exact ⟨X, x, P, rfl, hx, G.pass _ (by simp) ho⟩
end Go.Proofs.YtjdnpkicdmapnaaGreatDoor
