/- Plain facts and contracts of functions of the program, out of walks. Their conditions stand ahead of each. -/
import Derived.Test.YtjdnpkicdmapnaaGreatDoorNm4
import Derived.Test.YtjdnpkicdmapnaaGreatDoorNm5
import Derived.Test.YtjdnpkicdmapnaaGreatDoorNm27
import Derived.Test.YtjdnpkicdmapnaaGreatDoorNm31
import Derived.Test.YtjdnpkicdmapnaaGreatDoorNm32
import Derived.Test.YtjdnpkicdmapnaaGreatDoorShelf
import Derived.Below
import Derived.BigQuiet
import Derived.Deep.Draws
import Derived.Deep.LoopGhost
import Derived.Deep.QuietTactic
import Derived.Deep.RegionHeld3
import Derived.Deep.RegionLaw
import Derived.Defers
import Derived.Ground.GgwProg
import Derived.Laws.BytesString
import Derived.Laws.Cells
import Derived.Laws.CopyOwn
import Derived.Laws.CopyRow
import Derived.Laws.IdiomStrings
import Derived.Laws.NewBlocks
import Derived.Laws.OwnMore
import Derived.Laws.Pointers
import Derived.Laws.Rows
import Derived.Lib.BitFns
import Derived.Lib.Hide
import Derived.Lib.IndexLaws
import Derived.Lib.IndexMore
import Derived.Lib.ItoaNum
import Derived.Lib.TrailingZeros
import Derived.LoopIn
import Derived.LoopNIn
import Derived.Maps.AppendAt
import Derived.OrdersIn
import Derived.OwnWalk
import Derived.OwnWalkIn
import Derived.RangeFuncBound
import Derived.RangeFuncBox
import Derived.RangeFuncCalls
import Derived.RangeFuncLeaves
import Derived.RangeFuncNested
import Derived.RowKit3
import Derived.Shelf.Abstract
import Derived.Shelf.GgClosure.StringsIndexFunc
import Derived.Shelf.GgClosure.StringsIndexFuncTop
import Derived.Shelf.RegionOpen
import Derived.Shelf.Small.Wraps
import Derived.Shelf.Spec.TrailingZeros
import Derived.Shelf.Strings.Cut
import Derived.Shelf.Strings.Prefix
import Derived.StillTactics
import Derived.StillTailTactics
import Derived.TacticsInMore
import Derived.Test.YtjdnpkicdmapnaaGreatDoorProg
import Derived.WalkKit
import Derived.WalkLawsBesides
import Derived.WalkMore
import Derived.WalkSpells
set_option linter.unusedVariables false
set_option linter.unusedSimpArgs false
set_option exponentiation.threshold 10000
namespace Go.Proofs.YtjdnpkicdmapnaaGreatDoor
open Go.RowKit GW NL
theorem ba_beq0 (a b : ByteArray) : (a == b) = true ↔ a = b := by
  obtain ⟨x⟩ := a
  obtain ⟨y⟩ := b
  constructor
  · intro h
    have e : x = y := by simpa using (show (x == y) = true from h)
    rw [e]
  · intro h
    cases h
    show (x == x) = true
    simp
theorem nd_iff (x : Nat) : nd x = true ↔ NoDig x := by unfold nd NoDig; exact decide_eq_true_iff
theorem nd_not (x : Nat) : nd x = false ↔ ¬ NoDig x := by rw [← nd_iff]; cases nd x <;> simp
theorem bl_eq (s : ByteArray) : s.data.toList.map UInt8.toNat = bl s := rfl
/-- nat.Parse of digits -/
theorem Parse_nat (s : ByteArray) (w : World) (hn9 : s.size ≤ 1000000000) (h0 : s.size ≠ 0) (hd : dig (bl s) = s.size) :
    Calls Tryz.prog 133 #[.string s] w (RNF (natP (bl s)).2.2 (natP (bl s)).1 (natP (bl s)).2.1 w) := by
  have hall : ∀ j, j < s.size → ¬ NoDig ((bl s).getD j 0) := fun j hj => (nd_not _).1 (dig_pre _ j (by omega))
  unfold natP
  rw [bl_len]
  by_cases h1 : 2467 < s.size
  · rw [if_pos h1]; exact Parse_long s w h1 hn9
  · rw [if_neg h1]
    by_cases h2 : 1 < s.size ∧ (bl s).getD 0 0 = 48
    · rw [if_pos h2]; exact Parse_form s w (by omega) hall (.inr h2)
    · rw [if_neg h2]
      have := Parse_digits s w (by omega) h0 hall h2
      by_cases h3 : dv (bl s) s.size < 2 ^ 8192
      · rw [if_pos h3]; exact this.mono fun e w' h => h.1 h3
      · rw [if_neg h3]; exact this.mono fun e w' h => h.2 h3
theorem rParse_nat (s : ByteArray) (w : World) (hn9 : s.size ≤ 1000000000) (h0 : s.size ≠ 0) (hd : dig (bl s) = s.size) :
    Calls Tryz.prog 72 #[.string s] w (RNF (natP (bl s)).2.2 (natP (bl s)).1 (natP (bl s)).2.1 w) := by
  have hall : ∀ j, j < s.size → ¬ NoDig ((bl s).getD j 0) := fun j hj => (nd_not _).1 (dig_pre _ j (by omega))
  unfold natP
  rw [bl_len]
  by_cases h1 : 2467 < s.size
  · rw [if_pos h1]; exact rParse_long s w h1 hn9
  · rw [if_neg h1]
    by_cases h2 : 1 < s.size ∧ (bl s).getD 0 0 = 48
    · rw [if_pos h2]; exact rParse_form s w (by omega) hall (.inr h2)
    · rw [if_neg h2]
      have := rParse_digits s w (by omega) h0 hall h2
      by_cases h3 : dv (bl s) s.size < 2 ^ 8192
      · rw [if_pos h3]; exact this.mono fun e w' h => h.1 h3
      · rw [if_neg h3]; exact this.mono fun e w' h => h.2 h3
/-- the closure of digits -/
theorem dclos (x : Nat) (w : World) : Calls Tryz.prog 132 #[.int .i32 (x : Int)] w fun e w' => e = .returned (.bool (nd x)) ∧ w = w' := by
  by_cases h1 : x < 48
  · have h1i : (x : Int) < 48 := by omega
    rw [(nd_iff x).2 (Or.inl h1)]
    clear h1
    go_enter Tryz.func132, Tryz.ntmps132
    go_wp2_with fail
    go_ret
    exact ⟨rfl, rfl⟩
  · have h1i : ¬ (x : Int) < 48 := by omega
    by_cases h2 : 57 < x
    · have h2i : (57 : Int) < (x : Int) := by omega
      rw [(nd_iff x).2 (Or.inr h2)]
      clear h1 h2
      go_enter Tryz.func132, Tryz.ntmps132
      go_wp2_with fail
      go_ret
      exact ⟨rfl, rfl⟩
    · have h2i : ¬ (57 : Int) < (x : Int) := by omega
      rw [(nd_not x).2 (by unfold NoDig; omega)]
      clear h1 h2
      go_enter Tryz.func132, Tryz.ntmps132
      go_wp2_with fail
      go_ret
      exact ⟨rfl, rfl⟩
/-- a fault as an error -/
abbrev flt (e p : Int) : Value := .iface 83 (.agg #[.int .i64 e, .int .i64 p])
theorem digits_any (s : ByteArray) (p : Nat) (w : World) (hs : s.size ≤ 1000000) (hp : p ≤ 1000000) :
    Calls Tryz.prog 105 #[.string s, .int .i64 (p : Int)] w fun e w' => e = .returned (if s.size = 0 ∨ dig (bl s) < s.size then flt 11 ((p + dig (bl s) : Nat) : Int) else .nilIface) ∧ Below w.heap.size w w' := by
  refine calls_b fun g => ?_
  have hle := dig_le (bl s)
  rw [bl_len] at hle
  have CI := Lib.hid (fun w => Tryz.strings_IndexFunc 132 #[] (enters_of Tryz.func132 (by kernel_rfl) rfl) nd s w (fun W x _ => (dclos x W).mono fun e w' ⟨h1, h2⟩ => ⟨h1, 0, h2.symm⟩))
  rw [idx_dig, bl_eq] at CI
  by_cases h1 : dig (bl s) < s.size
  · rw [if_pos h1] at CI
    rw [if_pos (.inr h1)]
    have h2 : (0 : Int) ≤ ((dig (bl s) : Nat) : Int) := by omega
    have hw : IntKind.i64.wrap ((p : Int) + ((dig (bl s) : Nat) : Int)) = ((p + dig (bl s) : Nat) : Int) := by rw [IntKind.wrap_i64]; omega
    generalize ((p + dig (bl s) : Nat) : Int) = r at *
    generalize ((dig (bl s) : Nat) : Int) = d at *
    clear h1 hle
    go_enter Tryz.func105, Tryz.ntmps105
    go_wp2_with (with_reducible refine G.any_mark _ ?_; (try generalize Array.size (World.heap (G.w _)) = bk); (try dsimp only [List.set_cons_zero, List.set_cons_succ]); (try clear g); intro g)
    refine (CI.out _).mono ?_
    rintro e w1 ⟨rfl, hb⟩
    obtain ⟨g1, rfl⟩ := G.call_ex _ hb
    clear hb
    (try clear g)
    revert g1
    intro g
    go_wp2_with (with_reducible refine G.any_mark _ ?_; (try generalize Array.size (World.heap (G.w _)) = bk); (try dsimp only [List.set_cons_zero, List.set_cons_succ]); (try clear g); intro g)
    go_ret
    exact ⟨rfl, G.below _⟩
  · rw [if_neg h1] at CI
    have hde : dig (bl s) = s.size := by omega
    by_cases h0 : s.size = 0
    · rw [if_pos (.inl h0), hde, h0, Nat.add_zero]
      have hse : s = { data := #[] } := by
        apply ByteArray.ext
        exact Array.eq_empty_of_size_eq_zero h0
      subst hse
      clear h1 hle h0 hde
      go_enter Tryz.func105, Tryz.ntmps105
      go_wp2_with (with_reducible refine G.any_mark _ ?_; (try generalize Array.size (World.heap (G.w _)) = bk); (try dsimp only [List.set_cons_zero, List.set_cons_succ]); (try clear g); intro g)
      refine (CI.out _).mono ?_
      rintro e w1 ⟨rfl, hb⟩
      obtain ⟨g1, rfl⟩ := G.call_ex _ hb
      clear hb
      (try clear g)
      revert g1
      intro g
      go_wp2_with (with_reducible refine G.any_mark _ ?_; (try generalize Array.size (World.heap (G.w _)) = bk); (try dsimp only [List.set_cons_zero, List.set_cons_succ]); (try clear g); intro g)
      go_ret
      exact ⟨rfl, G.below _⟩
    · rw [if_neg (by omega)]
      have hne : (s == ({ data := #[] } : ByteArray)) = false := by
        rw [Bool.eq_false_iff]
        intro h
        rw [ba_beq0 s _] at h
        rw [h] at h0
        exact h0 rfl
      have hne2 : s.toList.isEmpty = false := by
        rw [Lib.toList_data]
        cases hl : s.data.toList with
        | nil =>
          exfalso
          apply h0
          have := congrArg List.length hl
          rw [Array.length_toList] at this
          exact this
        | cons _ _ => rfl
      clear h1 hle h0 hde hne
      go_enter Tryz.func105, Tryz.ntmps105
      go_wp2_with (with_reducible refine G.any_mark _ ?_; (try generalize Array.size (World.heap (G.w _)) = bk); (try dsimp only [List.set_cons_zero, List.set_cons_succ]); (try clear g); intro g)
      refine (CI.out _).mono ?_
      rintro e w1 ⟨rfl, hb⟩
      obtain ⟨g1, rfl⟩ := G.call_ex _ hb
      clear hb
      (try clear g)
      revert g1
      intro g
      go_wp2_with (with_reducible refine G.any_mark _ ?_; (try generalize Array.size (World.heap (G.w _)) = bk); (try dsimp only [List.set_cons_zero, List.set_cons_succ]); (try clear g); intro g)
      go_ret
      exact ⟨rfl, G.below _⟩
end Go.Proofs.YtjdnpkicdmapnaaGreatDoor
namespace Go.Proofs.YtjdnpkicdmapnaaGreatDoor
open Go.RowKit GW NL
theorem natP_err (l : List Nat) : (natP l).1 = 0 ∨ (natP l).1 = 4 ∨ (natP l).1 = 11 ∨ (natP l).1 = 5 := by
  unfold natP
  split
  · simp
  · split
    · simp
    · split <;> simp
theorem natP_at (l : List Nat) : (natP l).2.1 ≤ 2467 := by
  unfold natP
  split
  · simp
  · split
    · simp
    · split <;> simp
/-- a natural number, or a fault -/
def RNt (x : Int × Nat × Nat) (p : Nat) (w : World) (e : Ending) (w' : World) : Prop :=
  (x.1 ≠ 0 ∧ e = .returned (.tuple #[.slice none 0 0, flt x.1 ((p + x.2.1 : Nat) : Int)]) ∧ Below w.heap.size w w') ∨ (x.1 = 0 ∧ ∃ A c F, e = .returned (.tuple #[.slice A (limbs x.2.2).length c, .nilIface]) ∧ F.Sl A c (limbs x.2.2) ∧ New w w' F)
set_option maxHeartbeats 2000000 in
theorem natural_any (s : ByteArray) (p : Nat) (w : World) (hs : s.size ≤ 1000000) (hp : p ≤ 1000000) (h0 : s.size ≠ 0) (hd : dig (bl s) = s.size) :
    Calls Tryz.prog 106 #[.string s, .int .i64 (p : Int)] w (RNt (natP (bl s)) p w) := by
  refine calls_b fun g => ?_
  have C := Lib.hid (fun w => Parse_nat s w (by omega) h0 hd)
  have he := natP_err (bl s)
  have ha := natP_at (bl s)
  clear h0 hd
  unfold RNF at C
  unfold RNt
  obtain ⟨⟨er, at', v⟩, hx⟩ : ∃ x, natP (bl s) = x := ⟨_, rfl⟩
  rw [hx] at C he ha ⊢
  dsimp only at C he ha ⊢
  clear hx
  have hw : IntKind.i64.wrap ((p : Int) + (at' : Int)) = ((p + at' : Nat) : Int) := by rw [IntKind.wrap_i64]; omega
  generalize ((p + at' : Nat) : Int) = r at *
  generalize (at' : Int) = a2 at *
  clear ha
  rcases he with rfl | rfl | rfl | rfl
  · go_enter Tryz.func106, Tryz.ntmps106
    go_wp2_with (with_reducible refine G.any_mark _ ?_; (try generalize Array.size (World.heap (G.w _)) = bk); (try dsimp only [List.set_cons_zero, List.set_cons_succ]); (try clear g); intro g)
    refine (C.out _).mono ?_
    rintro e w1 ⟨Ap, cp, Fp, rfl, hsp, hn⟩
    have hnnp := fun k o hk => Nat.le_trans g.chg.size (hn.new k o hk)
    obtain ⟨g1, rfl⟩ := G.new_ex _ hn
    clear hn
    (try clear g)
    revert g1
    intro g
    go_wp2_with (with_reducible refine G.any_mark _ ?_; (try generalize Array.size (World.heap (G.w _)) = bk); (try dsimp only [List.set_cons_zero, List.set_cons_succ]); (try clear g); intro g)
    go_ret2
    exact .inr ⟨by simp, Ap, cp, Fp, rfl, hsp, G.pass _ (by simp) hnnp⟩
  all_goals
    go_enter Tryz.func106, Tryz.ntmps106
    go_wp2_with (with_reducible refine G.any_mark _ ?_; (try generalize Array.size (World.heap (G.w _)) = bk); (try dsimp only [List.set_cons_zero, List.set_cons_succ]); (try clear g); intro g)
    refine (C.out _).mono ?_
    rintro e w1 ⟨Ap, cp, Fp, rfl, hsp, hn⟩
    have hnnp := fun k o hk => Nat.le_trans g.chg.size (hn.new k o hk)
    obtain ⟨g1, rfl⟩ := G.new_ex _ hn
    clear hn
    (try clear g)
    revert g1
    intro g
    go_wp2_with (with_reducible refine G.any_mark _ ?_; (try generalize Array.size (World.heap (G.w _)) = bk); (try dsimp only [List.set_cons_zero, List.set_cons_succ]); (try clear g); intro g)
    go_quiet (fail)
    ((try simp only [G.drew_eq, G.drewN_eq]); (refine G.any_mark _ ?_; (try clear g); intro g))
    go_wp2_with (with_reducible refine G.any_mark _ ?_; (try generalize Array.size (World.heap (G.w _)) = bk); (try dsimp only [List.set_cons_zero, List.set_cons_succ]); (try clear g); intro g)
    go_ret2
    exact .inl ⟨by simp, rfl, G.below _⟩
end Go.Proofs.YtjdnpkicdmapnaaGreatDoor
namespace Go.Proofs.YtjdnpkicdmapnaaGreatDoor
open Go.RowKit GW NL
/-- a fraction, or a fault -/
def RRd (x : Int × Nat × (Bool × Nat × Nat)) (w : World) (e : Ending) (w' : World) : Prop :=
  (x.1 ≠ 0 ∧ (∃ s A n c B m k, e = .returned (.tuple #[.agg #[.bool s, .slice A n c, .slice B m k], flt x.1 ((x.2.1 : Nat) : Int)])) ∧ Below w.heap.size w w') ∨
  (x.1 = 0 ∧ ∃ A c F B k H, e = .returned (.tuple #[.agg #[.bool x.2.2.1, .slice A (limbs x.2.2.2.1).length c, .slice B (limbs x.2.2.2.2).length k], .nilIface]) ∧ F.Sl A c (limbs x.2.2.2.1) ∧ H.Sl B k (limbs x.2.2.2.2) ∧ New w w' F ∧ New w w' H)
theorem RRd.err {a : Int} {b : Nat} {r : Bool × Nat × Nat} {w : World} {e : Ending} {w' : World} (h : a ≠ 0) (he : ∃ s A n c B m k, e = .returned (.tuple #[.agg #[.bool s, .slice A n c, .slice B m k], flt a ((b : Nat) : Int)])) (hb : Below w.heap.size w w') : RRd (a, b, r) w e w' := .inl ⟨h, he, hb⟩
theorem below_dn (w : World) (n : Nat) : Below w.heap.size w (w.drewN n) := (Below.refl w.heap.size w).trans ⟨rfl, rfl, rfl, Nat.le_refl _, fun _ _ => rfl⟩
theorem G.oldcell {w0 : World} {M : List Blk} {I : List Frag} (g : G w0 [] M I) {a : Addr} {v : Value} (h : w0.cell? a = some v) : g.w.cell? a = some v := below_old g.below h
/-- what the walk of read is given: the strings, the sign, the places -/
structure RdIn (s rest over under : ByteArray) (neg found : Bool) (fr bh : Nat) : Prop where
  p1 : (⟨(Lib.trimPrefix s.data.toList [45]).toArray⟩ : ByteArray) = rest
  p2 : Lib.hasPrefix s.data.toList [45] = neg
  c1 : (⟨(Lib.cut rest.data.toList [47]).1.toArray⟩ : ByteArray) = over
  c2 : (⟨(Lib.cut rest.data.toList [47]).2.1.toArray⟩ : ByteArray) = under
  c3 : (Lib.cut rest.data.toList [47]).2.2 = found
  sz : s.size = fr + rest.size
  s0 : s.size ≤ 5000
  so : over.size ≤ 5000
  su : under.size ≤ 5000
  hb : bh = fr + over.size + 1
/-- the first steps: what is known before the walk -/
theorem cp_of {s rest over under : ByteArray} {neg found : Bool} {fr bh : Nat} (h : RdIn s rest over under neg found fr bh) (w : World) :
    Calls Tryz.prog 103 #[.string s, .string { data := #[45] }] w fun e w' => e = .returned (.tuple #[.string rest, .bool neg]) ∧ Below w.heap.size w w' := by
  refine (Tryz.strings_CutPrefix s { data := #[45] } w).mono fun e w' ⟨h1, h2⟩ => ⟨?_, ?_⟩
  · rw [h1, ← h.p1, ← h.p2]
  · rw [h2]; exact Below.refl _ _
theorem cc_of {s rest over under : ByteArray} {neg found : Bool} {fr bh : Nat} (h : RdIn s rest over under neg found fr bh) (m : Int) (w : World) (hm : w.cell? ⟨3, 0, none⟩ = some (.int .i64 m)) :
    Calls Tryz.prog 104 #[.string rest, .string { data := #[47] }] w fun e w' => e = .returned (.tuple #[.string over, .string under, .bool found]) ∧ Below w.heap.size w w' := by
  refine (Tryz.strings_Cut rest { data := #[47] } m w (by have := h.sz; have := h.s0; omega) hm).mono fun e w' ⟨h1, n, h2⟩ => ⟨?_, ?_⟩
  · rw [h1, ← h.c1, ← h.c2, ← h.c3]
  · rw [h2]; exact below_dn w n
set_option maxRecDepth 20000 in
set_option maxHeartbeats 4000000 in
theorem read_bad1 (s rest over under : ByteArray) (neg found : Bool) (fr bh : Nat) (h : RdIn s rest over under neg found fr bh) (m : Int) (w : World) (hm : w.cell? ⟨3, 0, none⟩ = some (.int .i64 m)) (hT : Tab w) (hb : over.size = 0 ∨ dig (bl over) < over.size) :
    Calls Tryz.prog 68 #[.string s] w (RRd (11, fr + dig (bl over), (false, 0, 0)) w) := by
  refine calls_n fun g => ?_
  have CP := Lib.hid (fun w => cp_of h w)
  have CC := Lib.hid (fun w hm => cc_of h m w hm)
  have CD := Lib.hid (fun w => digits_any over fr w (by have := h.so; omega) (by have := h.sz; have := h.s0; omega))
  have hw1 : IntKind.i64.wrap ((s.size : Int) - (rest.size : Int)) = (fr : Int) := by have := h.sz; have := h.s0; rw [IntKind.wrap_i64]; omega
  have hw2 : IntKind.i64.wrap ((fr : Int) + (over.size : Int)) = ((fr + over.size : Nat) : Int) := by have := h.sz; have := h.s0; have := h.so; rw [IntKind.wrap_i64]; omega
  have hw3 : IntKind.i64.wrap (((fr + over.size : Nat) : Int) + 1) = (bh : Int) := by have := h.sz; have := h.s0; have := h.so; have := h.hb; rw [IntKind.wrap_i64]; omega
  have HM := Lib.hid hm
  have HT := Lib.hid hT
  rw [if_pos hb] at CD
  clear hb
  clear hm hT
  generalize ((fr + over.size : Nat) : Int) = q1 at *
  generalize hq2 : ((fr + dig (bl over) : Nat) : Int) = q2 at *
  go_enter Tryz.func68, Tryz.ntmps68
  go_wp2_with (with_reducible refine G.any_mark _ ?_; (try generalize Array.size (World.heap (G.w _)) = bk); (try dsimp only [List.set_cons_zero, List.set_cons_succ]); (try clear g); intro g)
  refine (CP.out _).mono ?_
  rintro e w1 ⟨rfl, hb⟩
  obtain ⟨g1, rfl⟩ := G.call_ex _ hb
  clear hb
  (try clear g)
  revert g1
  intro g
  go_wp2_with (with_reducible refine G.any_mark _ ?_; (try generalize Array.size (World.heap (G.w _)) = bk); (try dsimp only [List.set_cons_zero, List.set_cons_succ]); (try clear g); intro g)
  refine (CC.out _ (G.oldcell g HM.out)).mono ?_
  rintro e w1 ⟨rfl, hb⟩
  obtain ⟨g1, rfl⟩ := G.call_ex _ hb
  clear hb
  (try clear g)
  revert g1
  intro g
  go_wp2_with (with_reducible refine G.any_mark _ ?_; (try generalize Array.size (World.heap (G.w _)) = bk); (try dsimp only [List.set_cons_zero, List.set_cons_succ]); (try clear g); intro g)
  refine (CD.out _).mono ?_
  rintro e w1 ⟨rfl, hb⟩
  obtain ⟨g1, rfl⟩ := G.call_ex _ hb
  clear hb
  (try clear g)
  revert g1
  intro g
  go_wp2_with (with_reducible refine G.any_mark _ ?_; (try generalize Array.size (World.heap (G.w _)) = bk); (try dsimp only [List.set_cons_zero, List.set_cons_succ]); (try clear g); intro g)
  refine bodyPost_ret (v := .tuple #[.agg #[.bool false, .slice none 0 0, .slice none 0 0], flt 11 q2]) (by simp [results, Tryz.results68, go_sem]) rfl ?_
  exact RRd.err (by decide) ⟨_, _, _, _, _, _, _, by rw [hq2]⟩ (G.below _)
theorem nat_err (s : ByteArray) (p : Nat) (w : World) (hs : s.size ≤ 1000000) (hp : p ≤ 1000000) (h0 : s.size ≠ 0) (hd : dig (bl s) = s.size) (he : (natP (bl s)).1 ≠ 0) :
    Calls Tryz.prog 106 #[.string s, .int .i64 (p : Int)] w fun e w' => e = .returned (.tuple #[.slice none 0 0, flt (natP (bl s)).1 ((p + (natP (bl s)).2.1 : Nat) : Int)]) ∧ Below w.heap.size w w' := by
  refine (natural_any s p w hs hp h0 hd).mono fun e w' h => ?_
  rcases h with ⟨_, h1, h2⟩ | ⟨h1, _⟩
  · exact ⟨h1, h2⟩
  · exact absurd h1 he
theorem nat_ok (s : ByteArray) (p : Nat) (w : World) (hs : s.size ≤ 1000000) (hp : p ≤ 1000000) (h0 : s.size ≠ 0) (hd : dig (bl s) = s.size) (he : (natP (bl s)).1 = 0) :
    Calls Tryz.prog 106 #[.string s, .int .i64 (p : Int)] w fun e w' => ∃ A c F, e = .returned (.tuple #[.slice A (limbs (natP (bl s)).2.2).length c, .nilIface]) ∧ F.Sl A c (limbs (natP (bl s)).2.2) ∧ New w w' F := by
  refine (natural_any s p w hs hp h0 hd).mono fun e w' h => ?_
  rcases h with ⟨h1, _⟩ | ⟨_, h1⟩
  · exact absurd he h1
  · exact h1
set_option maxRecDepth 20000 in
set_option maxHeartbeats 4000000 in
theorem read_bad2 (s rest over under : ByteArray) (neg found : Bool) (fr bh : Nat) (h : RdIn s rest over under neg found fr bh) (m : Int) (w : World) (hm : w.cell? ⟨3, 0, none⟩ = some (.int .i64 m)) (hT : Tab w) (h0 : over.size ≠ 0) (hd : dig (bl over) = over.size) (hf : found = true) (hb : under.size = 0 ∨ dig (bl under) < under.size) :
    Calls Tryz.prog 68 #[.string s] w (RRd (11, bh + dig (bl under), (false, 0, 0)) w) := by
  obtain rfl : found = true := hf
  refine calls_n fun g => ?_
  have CP := Lib.hid (fun w => cp_of h w)
  have CC := Lib.hid (fun w hm => cc_of h m w hm)
  have CD := Lib.hid (fun w => digits_any over fr w (by have := h.so; omega) (by have := h.sz; have := h.s0; omega))
  have hw1 : IntKind.i64.wrap ((s.size : Int) - (rest.size : Int)) = (fr : Int) := by have := h.sz; have := h.s0; rw [IntKind.wrap_i64]; omega
  have hw2 : IntKind.i64.wrap ((fr : Int) + (over.size : Int)) = ((fr + over.size : Nat) : Int) := by have := h.sz; have := h.s0; have := h.so; rw [IntKind.wrap_i64]; omega
  have hw3 : IntKind.i64.wrap (((fr + over.size : Nat) : Int) + 1) = (bh : Int) := by have := h.sz; have := h.s0; have := h.so; have := h.hb; rw [IntKind.wrap_i64]; omega
  have HM := Lib.hid hm
  have HT := Lib.hid hT
  rw [if_neg (by omega)] at CD
  have CD2 := Lib.hid (fun w => digits_any under bh w (by have := h.su; omega) (by have := h.hb; have := h.sz; have := h.s0; have := h.so; omega))
  rw [if_pos hb] at CD2
  clear hb h0 hd
  clear hm hT
  generalize ((fr + over.size : Nat) : Int) = q1 at *
  generalize hq2 : ((bh + dig (bl under) : Nat) : Int) = q2 at *
  go_enter Tryz.func68, Tryz.ntmps68
  go_wp2_with (with_reducible refine G.any_mark _ ?_; (try generalize Array.size (World.heap (G.w _)) = bk); (try dsimp only [List.set_cons_zero, List.set_cons_succ]); (try clear g); intro g)
  refine (CP.out _).mono ?_
  rintro e w1 ⟨rfl, hb⟩
  obtain ⟨g1, rfl⟩ := G.call_ex _ hb
  clear hb
  (try clear g)
  revert g1
  intro g
  go_wp2_with (with_reducible refine G.any_mark _ ?_; (try generalize Array.size (World.heap (G.w _)) = bk); (try dsimp only [List.set_cons_zero, List.set_cons_succ]); (try clear g); intro g)
  refine (CC.out _ (G.oldcell g HM.out)).mono ?_
  rintro e w1 ⟨rfl, hb⟩
  obtain ⟨g1, rfl⟩ := G.call_ex _ hb
  clear hb
  (try clear g)
  revert g1
  intro g
  go_wp2_with (with_reducible refine G.any_mark _ ?_; (try generalize Array.size (World.heap (G.w _)) = bk); (try dsimp only [List.set_cons_zero, List.set_cons_succ]); (try clear g); intro g)
  refine (CD.out _).mono ?_
  rintro e w1 ⟨rfl, hb⟩
  obtain ⟨g1, rfl⟩ := G.call_ex _ hb
  clear hb
  (try clear g)
  revert g1
  intro g
  go_wp2_with (with_reducible refine G.any_mark _ ?_; (try generalize Array.size (World.heap (G.w _)) = bk); (try dsimp only [List.set_cons_zero, List.set_cons_succ]); (try clear g); intro g)
  refine (CD2.out _).mono ?_
  rintro e w1 ⟨rfl, hb⟩
  obtain ⟨g1, rfl⟩ := G.call_ex _ hb
  clear hb
  (try clear g)
  revert g1
  intro g
  go_wp2_with (with_reducible refine G.any_mark _ ?_; (try generalize Array.size (World.heap (G.w _)) = bk); (try dsimp only [List.set_cons_zero, List.set_cons_succ]); (try clear g); intro g)
  refine bodyPost_ret (v := .tuple #[.agg #[.bool false, .slice none 0 0, .slice none 0 0], flt 11 q2]) (by simp [results, Tryz.results68, go_sem]) rfl ?_
  exact RRd.err (by decide) ⟨_, _, _, _, _, _, _, by rw [hq2]⟩ (G.below _)
set_option maxRecDepth 20000 in
set_option maxHeartbeats 4000000 in
theorem read_int_err (s rest over under : ByteArray) (neg found : Bool) (fr bh : Nat) (h : RdIn s rest over under neg found fr bh) (m : Int) (w : World) (hm : w.cell? ⟨3, 0, none⟩ = some (.int .i64 m)) (hT : Tab w) (h0 : over.size ≠ 0) (hd : dig (bl over) = over.size) (hf : found = false) (he : (natP (bl over)).1 ≠ 0) :
    Calls Tryz.prog 68 #[.string s] w (RRd ((natP (bl over)).1, fr + (natP (bl over)).2.1, (false, 0, 0)) w) := by
  obtain rfl : found = false := hf
  refine calls_n fun g => ?_
  have CP := Lib.hid (fun w => cp_of h w)
  have CC := Lib.hid (fun w hm => cc_of h m w hm)
  have CD := Lib.hid (fun w => digits_any over fr w (by have := h.so; omega) (by have := h.sz; have := h.s0; omega))
  have hw1 : IntKind.i64.wrap ((s.size : Int) - (rest.size : Int)) = (fr : Int) := by have := h.sz; have := h.s0; rw [IntKind.wrap_i64]; omega
  have hw2 : IntKind.i64.wrap ((fr : Int) + (over.size : Int)) = ((fr + over.size : Nat) : Int) := by have := h.sz; have := h.s0; have := h.so; rw [IntKind.wrap_i64]; omega
  have hw3 : IntKind.i64.wrap (((fr + over.size : Nat) : Int) + 1) = (bh : Int) := by have := h.sz; have := h.s0; have := h.so; have := h.hb; rw [IntKind.wrap_i64]; omega
  have HM := Lib.hid hm
  have HT := Lib.hid hT
  rw [if_neg (by omega)] at CD
  have CN := Lib.hid (fun w => nat_err over fr w (by have := h.so; omega) (by have := h.sz; have := h.s0; omega) h0 hd he)
  have CWn := Lib.hid (fun w => whole_any false none 0 0 w)
  clear h0 hd
  clear hm hT
  generalize ((fr + over.size : Nat) : Int) = q1 at *
  have hx := natP_err (bl over)
  generalize hq2 : ((fr + (natP (bl over)).2.1 : Nat) : Int) = q2 at *
  generalize (natP (bl over)).1 = er at *
  rcases hx with hx | hx | hx | hx
  · exact absurd hx he
  all_goals
    subst hx
    clear he
    cases neg
    all_goals
      go_enter Tryz.func68, Tryz.ntmps68
      go_wp2_with (with_reducible refine G.any_mark _ ?_; (try generalize Array.size (World.heap (G.w _)) = bk); (try dsimp only [List.set_cons_zero, List.set_cons_succ]); (try clear g); intro g)
      refine (CP.out _).mono ?_
      rintro e w1 ⟨rfl, hb⟩
      obtain ⟨g1, rfl⟩ := G.call_ex _ hb
      clear hb
      (try clear g)
      revert g1
      intro g
      go_wp2_with (with_reducible refine G.any_mark _ ?_; (try generalize Array.size (World.heap (G.w _)) = bk); (try dsimp only [List.set_cons_zero, List.set_cons_succ]); (try clear g); intro g)
      refine (CC.out _ (G.oldcell g HM.out)).mono ?_
      rintro e w1 ⟨rfl, hb⟩
      obtain ⟨g1, rfl⟩ := G.call_ex _ hb
      clear hb
      (try clear g)
      revert g1
      intro g
      go_wp2_with (with_reducible refine G.any_mark _ ?_; (try generalize Array.size (World.heap (G.w _)) = bk); (try dsimp only [List.set_cons_zero, List.set_cons_succ]); (try clear g); intro g)
      refine (CD.out _).mono ?_
      rintro e w1 ⟨rfl, hb⟩
      obtain ⟨g1, rfl⟩ := G.call_ex _ hb
      clear hb
      (try clear g)
      revert g1
      intro g
      go_wp2_with (with_reducible refine G.any_mark _ ?_; (try generalize Array.size (World.heap (G.w _)) = bk); (try dsimp only [List.set_cons_zero, List.set_cons_succ]); (try clear g); intro g)
      refine (CN.out _).mono ?_
      rintro e w1 ⟨rfl, hb⟩
      obtain ⟨g1, rfl⟩ := G.call_ex _ hb
      clear hb
      (try clear g)
      revert g1
      intro g
      go_wp2_with (with_reducible refine G.any_mark _ ?_; (try generalize Array.size (World.heap (G.w _)) = bk); (try dsimp only [List.set_cons_zero, List.set_cons_succ]); (try clear g); intro g)
      (try (refine cmark _ ?_; (try dsimp only [List.set_cons_zero, List.set_cons_succ]); (try clear g); intro g))
      refine (CWn.out _).mono ?_
      rintro e w1 ⟨B, k, H, rfl, hH, hn⟩
      obtain ⟨g1, rfl⟩ := G.new_ex _ hn
      clear hn
      (try clear g)
      revert g1
      intro g
      go_wp2_with (with_reducible refine G.any_mark _ ?_; (try generalize Array.size (World.heap (G.w _)) = bk); (try dsimp only [List.set_cons_zero, List.set_cons_succ]); (try clear g); intro g)
      refine bodyPost_ret (v := .tuple #[.agg #[.bool false, .slice none 0 0, .slice B (limbs 1).length k], flt _ q2]) (by simp [results, Tryz.results68, go_sem]; rfl) rfl ?_
      exact RRd.err (by decide) ⟨_, _, _, _, _, _, _, by rw [hq2]⟩ (G.below _)
set_option maxRecDepth 20000 in
set_option maxHeartbeats 4000000 in
theorem read_int_ok (s rest over under : ByteArray) (neg found : Bool) (fr bh : Nat) (h : RdIn s rest over under neg found fr bh) (m : Int) (w : World) (hm : w.cell? ⟨3, 0, none⟩ = some (.int .i64 m)) (hT : Tab w) (h0 : over.size ≠ 0) (hd : dig (bl over) = over.size) (hf : found = false) (he : (natP (bl over)).1 = 0) :
    Calls Tryz.prog 68 #[.string s] w (RRd (0, 0, (neg && decide ((natP (bl over)).2.2 ≠ 0), (natP (bl over)).2.2, 1)) w) := by
  obtain rfl : found = false := hf
  refine calls_n fun g => ?_
  have CP := Lib.hid (fun w => cp_of h w)
  have CC := Lib.hid (fun w hm => cc_of h m w hm)
  have CD := Lib.hid (fun w => digits_any over fr w (by have := h.so; omega) (by have := h.sz; have := h.s0; omega))
  have hw1 : IntKind.i64.wrap ((s.size : Int) - (rest.size : Int)) = (fr : Int) := by have := h.sz; have := h.s0; rw [IntKind.wrap_i64]; omega
  have hw2 : IntKind.i64.wrap ((fr : Int) + (over.size : Int)) = ((fr + over.size : Nat) : Int) := by have := h.sz; have := h.s0; have := h.so; rw [IntKind.wrap_i64]; omega
  have hw3 : IntKind.i64.wrap (((fr + over.size : Nat) : Int) + 1) = (bh : Int) := by have := h.sz; have := h.s0; have := h.so; have := h.hb; rw [IntKind.wrap_i64]; omega
  have HM := Lib.hid hm
  have HT := Lib.hid hT
  rw [if_neg (by omega)] at CD
  have CN := Lib.hid (fun w => nat_ok over fr w (by have := h.so; omega) (by have := h.sz; have := h.s0; omega) h0 hd he)
  have CWn := Lib.hid (fun s A c n w => whole_any s A c n w)
  clear h0 hd he
  clear hm hT
  generalize ((fr + over.size : Nat) : Int) = q1 at *
  generalize (natP (bl over)).2.2 = v at *
  obtain ⟨sg, hsg⟩ : ∃ sg, (neg && decide (v ≠ 0)) = sg := ⟨_, rfl⟩
  rw [hsg]
  have hcs : (neg = false ∧ sg = false) ∨ (neg = true ∧ sg = decide (0 < (limbs v).length)) := by
    cases neg
    · exact .inl ⟨rfl, by rw [← hsg]; rfl⟩
    · refine .inr ⟨rfl, ?_⟩
      rw [← hsg, Bool.true_and]
      by_cases h : v = 0
      · rw [h, limbs_len0]; rfl
      · rw [decide_eq_true h, decide_eq_true (limbs_ne h).2]
  clear hsg
  unfold RRd
  dsimp only
  generalize (limbs v).length = lv at *
  generalize (limbs 1).length = o1 at *
  rcases hcs with ⟨rfl, rfl⟩ | ⟨rfl, rfl⟩
  all_goals
    go_enter Tryz.func68, Tryz.ntmps68
    go_wp2_with (with_reducible refine G.any_mark _ ?_; (try generalize Array.size (World.heap (G.w _)) = bk); (try dsimp only [List.set_cons_zero, List.set_cons_succ]); (try clear g); intro g)
    refine (CP.out _).mono ?_
    rintro e w1 ⟨rfl, hb⟩
    obtain ⟨g1, rfl⟩ := G.call_ex _ hb
    clear hb
    (try clear g)
    revert g1
    intro g
    go_wp2_with (with_reducible refine G.any_mark _ ?_; (try generalize Array.size (World.heap (G.w _)) = bk); (try dsimp only [List.set_cons_zero, List.set_cons_succ]); (try clear g); intro g)
    refine (CC.out _ (G.oldcell g HM.out)).mono ?_
    rintro e w1 ⟨rfl, hb⟩
    obtain ⟨g1, rfl⟩ := G.call_ex _ hb
    clear hb
    (try clear g)
    revert g1
    intro g
    go_wp2_with (with_reducible refine G.any_mark _ ?_; (try generalize Array.size (World.heap (G.w _)) = bk); (try dsimp only [List.set_cons_zero, List.set_cons_succ]); (try clear g); intro g)
    refine (CD.out _).mono ?_
    rintro e w1 ⟨rfl, hb⟩
    obtain ⟨g1, rfl⟩ := G.call_ex _ hb
    clear hb
    (try clear g)
    revert g1
    intro g
    go_wp2_with (with_reducible refine G.any_mark _ ?_; (try generalize Array.size (World.heap (G.w _)) = bk); (try dsimp only [List.set_cons_zero, List.set_cons_succ]); (try clear g); intro g)
    refine (CN.out _).mono ?_
    rintro e w1 ⟨Ap, cp, Fp, rfl, hsp, hn⟩
    have hnnp := fun k o hk => Nat.le_trans g.chg.size (hn.new k o hk)
    obtain ⟨g1, rfl⟩ := G.new_ex _ hn
    clear hn
    (try clear g)
    revert g1
    intro g
    go_wp2_with (with_reducible refine G.any_mark _ ?_; (try generalize Array.size (World.heap (G.w _)) = bk); (try dsimp only [List.set_cons_zero, List.set_cons_succ]); (try clear g); intro g)
    (try (refine cmark _ ?_; (try dsimp only [List.set_cons_zero, List.set_cons_succ]); (try clear g); intro g))
    refine (CWn.out _ _ _ _ _).mono ?_
    rintro e w1 ⟨B, k, H, rfl, hH, hn⟩
    have hnnH := fun k o hk => Nat.le_trans g.chg.size (hn.new k o hk)
    obtain ⟨g1, rfl⟩ := G.new_ex _ hn
    clear hn
    (try clear g)
    revert g1
    intro g
    go_wp2_with (with_reducible refine G.any_mark _ ?_; (try generalize Array.size (World.heap (G.w _)) = bk); (try dsimp only [List.set_cons_zero, List.set_cons_succ]); (try clear g); intro g)
    refine bodyPost_ret (v := .tuple #[.agg #[.bool _, .slice Ap lv cp, .slice B o1 k], .nilIface]) (by simp [results, Tryz.results68, go_sem]; rfl) rfl ?_
    exact .inr ⟨by simp, Ap, cp, Fp, B, k, H, rfl, hsp, hH, G.pass _ (by simp) hnnp, G.pass _ (by simp) hnnH⟩
set_option maxRecDepth 20000 in
set_option maxHeartbeats 4000000 in
theorem read_num (s rest over under : ByteArray) (neg found : Bool) (fr bh : Nat) (h : RdIn s rest over under neg found fr bh) (m : Int) (w : World) (hm : w.cell? ⟨3, 0, none⟩ = some (.int .i64 m)) (hT : Tab w) (h0 : over.size ≠ 0) (hd : dig (bl over) = over.size) (h2 : under.size ≠ 0) (hd2 : dig (bl under) = under.size) (hf : found = true) (he : (natP (bl over)).1 ≠ 0) :
    Calls Tryz.prog 68 #[.string s] w (RRd ((natP (bl over)).1, fr + (natP (bl over)).2.1, (false, 0, 0)) w) := by
  obtain rfl : found = true := hf
  refine calls_n fun g => ?_
  have CP := Lib.hid (fun w => cp_of h w)
  have CC := Lib.hid (fun w hm => cc_of h m w hm)
  have CD := Lib.hid (fun w => digits_any over fr w (by have := h.so; omega) (by have := h.sz; have := h.s0; omega))
  have hw1 : IntKind.i64.wrap ((s.size : Int) - (rest.size : Int)) = (fr : Int) := by have := h.sz; have := h.s0; rw [IntKind.wrap_i64]; omega
  have hw2 : IntKind.i64.wrap ((fr : Int) + (over.size : Int)) = ((fr + over.size : Nat) : Int) := by have := h.sz; have := h.s0; have := h.so; rw [IntKind.wrap_i64]; omega
  have hw3 : IntKind.i64.wrap (((fr + over.size : Nat) : Int) + 1) = (bh : Int) := by have := h.sz; have := h.s0; have := h.so; have := h.hb; rw [IntKind.wrap_i64]; omega
  have HM := Lib.hid hm
  have HT := Lib.hid hT
  rw [if_neg (by omega)] at CD
  have CD2 := Lib.hid (fun w => digits_any under bh w (by have := h.su; omega) (by have := h.hb; have := h.sz; have := h.s0; have := h.so; omega))
  rw [if_neg (by omega)] at CD2
  have CN := Lib.hid (fun w => nat_err over fr w (by have := h.so; omega) (by have := h.sz; have := h.s0; omega) h0 hd he)
  clear h0 hd h2 hd2
  clear hm hT
  generalize ((fr + over.size : Nat) : Int) = q1 at *
  have hx := natP_err (bl over)
  generalize hq2 : ((fr + (natP (bl over)).2.1 : Nat) : Int) = q2 at *
  generalize (natP (bl over)).1 = er at *
  rcases hx with hx | hx | hx | hx
  · exact absurd hx he
  all_goals
    subst hx
    clear he
    go_enter Tryz.func68, Tryz.ntmps68
    go_wp2_with (with_reducible refine G.any_mark _ ?_; (try generalize Array.size (World.heap (G.w _)) = bk); (try dsimp only [List.set_cons_zero, List.set_cons_succ]); (try clear g); intro g)
    refine (CP.out _).mono ?_
    rintro e w1 ⟨rfl, hb⟩
    obtain ⟨g1, rfl⟩ := G.call_ex _ hb
    clear hb
    (try clear g)
    revert g1
    intro g
    go_wp2_with (with_reducible refine G.any_mark _ ?_; (try generalize Array.size (World.heap (G.w _)) = bk); (try dsimp only [List.set_cons_zero, List.set_cons_succ]); (try clear g); intro g)
    refine (CC.out _ (G.oldcell g HM.out)).mono ?_
    rintro e w1 ⟨rfl, hb⟩
    obtain ⟨g1, rfl⟩ := G.call_ex _ hb
    clear hb
    (try clear g)
    revert g1
    intro g
    go_wp2_with (with_reducible refine G.any_mark _ ?_; (try generalize Array.size (World.heap (G.w _)) = bk); (try dsimp only [List.set_cons_zero, List.set_cons_succ]); (try clear g); intro g)
    refine (CD.out _).mono ?_
    rintro e w1 ⟨rfl, hb⟩
    obtain ⟨g1, rfl⟩ := G.call_ex _ hb
    clear hb
    (try clear g)
    revert g1
    intro g
    go_wp2_with (with_reducible refine G.any_mark _ ?_; (try generalize Array.size (World.heap (G.w _)) = bk); (try dsimp only [List.set_cons_zero, List.set_cons_succ]); (try clear g); intro g)
    refine (CD2.out _).mono ?_
    rintro e w1 ⟨rfl, hb⟩
    obtain ⟨g1, rfl⟩ := G.call_ex _ hb
    clear hb
    (try clear g)
    revert g1
    intro g
    go_wp2_with (with_reducible refine G.any_mark _ ?_; (try generalize Array.size (World.heap (G.w _)) = bk); (try dsimp only [List.set_cons_zero, List.set_cons_succ]); (try clear g); intro g)
    refine (CN.out _).mono ?_
    rintro e w1 ⟨rfl, hb⟩
    obtain ⟨g1, rfl⟩ := G.call_ex _ hb
    clear hb
    (try clear g)
    revert g1
    intro g
    go_wp2_with (with_reducible refine G.any_mark _ ?_; (try generalize Array.size (World.heap (G.w _)) = bk); (try dsimp only [List.set_cons_zero, List.set_cons_succ]); (try clear g); intro g)
    refine bodyPost_ret (v := .tuple #[.agg #[.bool false, .slice none 0 0, .slice none 0 0], flt _ q2]) (by simp [results, Tryz.results68, go_sem]; rfl) rfl ?_
    exact RRd.err (by decide) ⟨_, _, _, _, _, _, _, by rw [hq2]⟩ (G.below _)
set_option maxRecDepth 20000 in
set_option maxHeartbeats 4000000 in
theorem read_den (s rest over under : ByteArray) (neg found : Bool) (fr bh : Nat) (h : RdIn s rest over under neg found fr bh) (m : Int) (w : World) (hm : w.cell? ⟨3, 0, none⟩ = some (.int .i64 m)) (hT : Tab w) (h0 : over.size ≠ 0) (hd : dig (bl over) = over.size) (h2 : under.size ≠ 0) (hd2 : dig (bl under) = under.size) (hf : found = true) (he : (natP (bl over)).1 = 0) (he2 : (natP (bl under)).1 ≠ 0) :
    Calls Tryz.prog 68 #[.string s] w (RRd ((natP (bl under)).1, bh + (natP (bl under)).2.1, (false, 0, 0)) w) := by
  obtain rfl : found = true := hf
  refine calls_n fun g => ?_
  have CP := Lib.hid (fun w => cp_of h w)
  have CC := Lib.hid (fun w hm => cc_of h m w hm)
  have CD := Lib.hid (fun w => digits_any over fr w (by have := h.so; omega) (by have := h.sz; have := h.s0; omega))
  have hw1 : IntKind.i64.wrap ((s.size : Int) - (rest.size : Int)) = (fr : Int) := by have := h.sz; have := h.s0; rw [IntKind.wrap_i64]; omega
  have hw2 : IntKind.i64.wrap ((fr : Int) + (over.size : Int)) = ((fr + over.size : Nat) : Int) := by have := h.sz; have := h.s0; have := h.so; rw [IntKind.wrap_i64]; omega
  have hw3 : IntKind.i64.wrap (((fr + over.size : Nat) : Int) + 1) = (bh : Int) := by have := h.sz; have := h.s0; have := h.so; have := h.hb; rw [IntKind.wrap_i64]; omega
  have HM := Lib.hid hm
  have HT := Lib.hid hT
  rw [if_neg (by omega)] at CD
  have CD2 := Lib.hid (fun w => digits_any under bh w (by have := h.su; omega) (by have := h.hb; have := h.sz; have := h.s0; have := h.so; omega))
  rw [if_neg (by omega)] at CD2
  have CN := Lib.hid (fun w => nat_ok over fr w (by have := h.so; omega) (by have := h.sz; have := h.s0; omega) h0 hd he)
  have CN2 := Lib.hid (fun w => nat_err under bh w (by have := h.su; omega) (by have := h.hb; have := h.sz; have := h.s0; have := h.so; omega) h2 hd2 he2)
  clear h0 hd h2 hd2 he
  clear hm hT
  generalize ((fr + over.size : Nat) : Int) = q1 at *
  have hx := natP_err (bl under)
  generalize hq2 : ((bh + (natP (bl under)).2.1 : Nat) : Int) = q2 at *
  generalize (natP (bl under)).1 = er at *
  generalize (natP (bl over)).2.2 = v at *
  rcases hx with hx | hx | hx | hx
  · exact absurd hx he2
  all_goals
    subst hx
    clear he2
    go_enter Tryz.func68, Tryz.ntmps68
    go_wp2_with (with_reducible refine G.any_mark _ ?_; (try generalize Array.size (World.heap (G.w _)) = bk); (try dsimp only [List.set_cons_zero, List.set_cons_succ]); (try clear g); intro g)
    refine (CP.out _).mono ?_
    rintro e w1 ⟨rfl, hb⟩
    obtain ⟨g1, rfl⟩ := G.call_ex _ hb
    clear hb
    (try clear g)
    revert g1
    intro g
    go_wp2_with (with_reducible refine G.any_mark _ ?_; (try generalize Array.size (World.heap (G.w _)) = bk); (try dsimp only [List.set_cons_zero, List.set_cons_succ]); (try clear g); intro g)
    refine (CC.out _ (G.oldcell g HM.out)).mono ?_
    rintro e w1 ⟨rfl, hb⟩
    obtain ⟨g1, rfl⟩ := G.call_ex _ hb
    clear hb
    (try clear g)
    revert g1
    intro g
    go_wp2_with (with_reducible refine G.any_mark _ ?_; (try generalize Array.size (World.heap (G.w _)) = bk); (try dsimp only [List.set_cons_zero, List.set_cons_succ]); (try clear g); intro g)
    refine (CD.out _).mono ?_
    rintro e w1 ⟨rfl, hb⟩
    obtain ⟨g1, rfl⟩ := G.call_ex _ hb
    clear hb
    (try clear g)
    revert g1
    intro g
    go_wp2_with (with_reducible refine G.any_mark _ ?_; (try generalize Array.size (World.heap (G.w _)) = bk); (try dsimp only [List.set_cons_zero, List.set_cons_succ]); (try clear g); intro g)
    refine (CD2.out _).mono ?_
    rintro e w1 ⟨rfl, hb⟩
    obtain ⟨g1, rfl⟩ := G.call_ex _ hb
    clear hb
    (try clear g)
    revert g1
    intro g
    go_wp2_with (with_reducible refine G.any_mark _ ?_; (try generalize Array.size (World.heap (G.w _)) = bk); (try dsimp only [List.set_cons_zero, List.set_cons_succ]); (try clear g); intro g)
    refine (CN.out _).mono ?_
    rintro e w1 ⟨Ap, cp, Fp, rfl, hsp, hn⟩
    have hnnp := fun k o hk => Nat.le_trans g.chg.size (hn.new k o hk)
    obtain ⟨g1, rfl⟩ := G.new_ex _ hn
    clear hn
    (try clear g)
    revert g1
    intro g
    go_wp2_with (with_reducible refine G.any_mark _ ?_; (try generalize Array.size (World.heap (G.w _)) = bk); (try dsimp only [List.set_cons_zero, List.set_cons_succ]); (try clear g); intro g)
    refine (CN2.out _).mono ?_
    rintro e w1 ⟨rfl, hb⟩
    obtain ⟨g1, rfl⟩ := G.call_ex _ hb
    clear hb
    (try clear g)
    revert g1
    intro g
    go_wp2_with (with_reducible refine G.any_mark _ ?_; (try generalize Array.size (World.heap (G.w _)) = bk); (try dsimp only [List.set_cons_zero, List.set_cons_succ]); (try clear g); intro g)
    refine bodyPost_ret (v := .tuple #[.agg #[.bool false, .slice none 0 0, .slice none 0 0], flt _ q2]) (by simp [results, Tryz.results68, go_sem]; rfl) rfl ?_
    exact RRd.err (by decide) ⟨_, _, _, _, _, _, _, by rw [hq2]⟩ (G.below _)
set_option maxRecDepth 20000 in
set_option maxHeartbeats 4000000 in
theorem read_zero (s rest over under : ByteArray) (neg found : Bool) (fr bh : Nat) (h : RdIn s rest over under neg found fr bh) (m : Int) (w : World) (hm : w.cell? ⟨3, 0, none⟩ = some (.int .i64 m)) (hT : Tab w) (h0 : over.size ≠ 0) (hd : dig (bl over) = over.size) (h2 : under.size ≠ 0) (hd2 : dig (bl under) = under.size) (hf : found = true) (he : (natP (bl over)).1 = 0) (he2 : (natP (bl under)).1 = 0) (hz : (natP (bl under)).2.2 = 0) :
    Calls Tryz.prog 68 #[.string s] w (RRd (6, bh, (false, 0, 0)) w) := by
  obtain rfl : found = true := hf
  refine calls_n fun g => ?_
  have CP := Lib.hid (fun w => cp_of h w)
  have CC := Lib.hid (fun w hm => cc_of h m w hm)
  have CD := Lib.hid (fun w => digits_any over fr w (by have := h.so; omega) (by have := h.sz; have := h.s0; omega))
  have hw1 : IntKind.i64.wrap ((s.size : Int) - (rest.size : Int)) = (fr : Int) := by have := h.sz; have := h.s0; rw [IntKind.wrap_i64]; omega
  have hw2 : IntKind.i64.wrap ((fr : Int) + (over.size : Int)) = ((fr + over.size : Nat) : Int) := by have := h.sz; have := h.s0; have := h.so; rw [IntKind.wrap_i64]; omega
  have hw3 : IntKind.i64.wrap (((fr + over.size : Nat) : Int) + 1) = (bh : Int) := by have := h.sz; have := h.s0; have := h.so; have := h.hb; rw [IntKind.wrap_i64]; omega
  have HM := Lib.hid hm
  have HT := Lib.hid hT
  rw [if_neg (by omega)] at CD
  have CD2 := Lib.hid (fun w => digits_any under bh w (by have := h.su; omega) (by have := h.hb; have := h.sz; have := h.s0; have := h.so; omega))
  rw [if_neg (by omega)] at CD2
  have CN := Lib.hid (fun w => nat_ok over fr w (by have := h.so; omega) (by have := h.sz; have := h.s0; omega) h0 hd he)
  have CN2 := Lib.hid (fun w => nat_ok under bh w (by have := h.su; omega) (by have := h.hb; have := h.sz; have := h.s0; have := h.so; omega) h2 hd2 he2)
  clear h0 hd h2 hd2 he he2
  clear hm hT
  generalize ((fr + over.size : Nat) : Int) = q1 at *
  rw [hz] at CN2
  have hl0 := limbs_len0
  rw [hl0] at CN2
  clear hz hl0
  generalize (natP (bl over)).2.2 = v at *
  go_enter Tryz.func68, Tryz.ntmps68
  go_wp2_with (with_reducible refine G.any_mark _ ?_; (try generalize Array.size (World.heap (G.w _)) = bk); (try dsimp only [List.set_cons_zero, List.set_cons_succ]); (try clear g); intro g)
  refine (CP.out _).mono ?_
  rintro e w1 ⟨rfl, hb⟩
  obtain ⟨g1, rfl⟩ := G.call_ex _ hb
  clear hb
  (try clear g)
  revert g1
  intro g
  go_wp2_with (with_reducible refine G.any_mark _ ?_; (try generalize Array.size (World.heap (G.w _)) = bk); (try dsimp only [List.set_cons_zero, List.set_cons_succ]); (try clear g); intro g)
  refine (CC.out _ (G.oldcell g HM.out)).mono ?_
  rintro e w1 ⟨rfl, hb⟩
  obtain ⟨g1, rfl⟩ := G.call_ex _ hb
  clear hb
  (try clear g)
  revert g1
  intro g
  go_wp2_with (with_reducible refine G.any_mark _ ?_; (try generalize Array.size (World.heap (G.w _)) = bk); (try dsimp only [List.set_cons_zero, List.set_cons_succ]); (try clear g); intro g)
  refine (CD.out _).mono ?_
  rintro e w1 ⟨rfl, hb⟩
  obtain ⟨g1, rfl⟩ := G.call_ex _ hb
  clear hb
  (try clear g)
  revert g1
  intro g
  go_wp2_with (with_reducible refine G.any_mark _ ?_; (try generalize Array.size (World.heap (G.w _)) = bk); (try dsimp only [List.set_cons_zero, List.set_cons_succ]); (try clear g); intro g)
  refine (CD2.out _).mono ?_
  rintro e w1 ⟨rfl, hb⟩
  obtain ⟨g1, rfl⟩ := G.call_ex _ hb
  clear hb
  (try clear g)
  revert g1
  intro g
  go_wp2_with (with_reducible refine G.any_mark _ ?_; (try generalize Array.size (World.heap (G.w _)) = bk); (try dsimp only [List.set_cons_zero, List.set_cons_succ]); (try clear g); intro g)
  refine (CN.out _).mono ?_
  rintro e w1 ⟨Ap, cp, Fp, rfl, hsp, hn⟩
  have hnnp := fun k o hk => Nat.le_trans g.chg.size (hn.new k o hk)
  obtain ⟨g1, rfl⟩ := G.new_ex _ hn
  clear hn
  (try clear g)
  revert g1
  intro g
  go_wp2_with (with_reducible refine G.any_mark _ ?_; (try generalize Array.size (World.heap (G.w _)) = bk); (try dsimp only [List.set_cons_zero, List.set_cons_succ]); (try clear g); intro g)
  refine (CN2.out _).mono ?_
  rintro e w1 ⟨Aq, cq, Fq, rfl, hsq, hn⟩
  have hnnq := fun k o hk => Nat.le_trans g.chg.size (hn.new k o hk)
  obtain ⟨g1, rfl⟩ := G.new_ex _ hn
  clear hn
  (try clear g)
  revert g1
  intro g
  go_wp2_with (with_reducible refine G.any_mark _ ?_; (try generalize Array.size (World.heap (G.w _)) = bk); (try dsimp only [List.set_cons_zero, List.set_cons_succ]); (try clear g); intro g)
  refine bodyPost_ret (v := .tuple #[.agg #[.bool false, .slice none 0 0, .slice none 0 0], flt 6 (bh : Int)]) (by simp [results, Tryz.results68, go_sem]) rfl ?_
  exact RRd.err (by decide) ⟨_, _, _, _, _, _, _, rfl⟩ (G.below _)
set_option maxRecDepth 20000 in
set_option maxHeartbeats 4000000 in
theorem read_ok (s rest over under : ByteArray) (neg found : Bool) (fr bh : Nat) (h : RdIn s rest over under neg found fr bh) (m : Int) (w : World) (hm : w.cell? ⟨3, 0, none⟩ = some (.int .i64 m)) (hT : Tab w) (h0 : over.size ≠ 0) (hd : dig (bl over) = over.size) (h2 : under.size ≠ 0) (hd2 : dig (bl under) = under.size) (hf : found = true) (he : (natP (bl over)).1 = 0) (he2 : (natP (bl under)).1 = 0) (hz : (natP (bl under)).2.2 ≠ 0) (hl1 : (limbs (natP (bl over)).2.2).length ≤ 100000000) (hl2 : (limbs (natP (bl under)).2.2).length ≤ 100000000) :
    Calls Tryz.prog 68 #[.string s] w (RRd (0, 0, (rneg (frac neg (natP (bl over)).2.2 (natP (bl under)).2.2), rn (frac neg (natP (bl over)).2.2 (natP (bl under)).2.2), (frac neg (natP (bl over)).2.2 (natP (bl under)).2.2).den)) w) := by
  obtain rfl : found = true := hf
  refine calls_n fun g => ?_
  have CP := Lib.hid (fun w => cp_of h w)
  have CC := Lib.hid (fun w hm => cc_of h m w hm)
  have CD := Lib.hid (fun w => digits_any over fr w (by have := h.so; omega) (by have := h.sz; have := h.s0; omega))
  have hw1 : IntKind.i64.wrap ((s.size : Int) - (rest.size : Int)) = (fr : Int) := by have := h.sz; have := h.s0; rw [IntKind.wrap_i64]; omega
  have hw2 : IntKind.i64.wrap ((fr : Int) + (over.size : Int)) = ((fr + over.size : Nat) : Int) := by have := h.sz; have := h.s0; have := h.so; rw [IntKind.wrap_i64]; omega
  have hw3 : IntKind.i64.wrap (((fr + over.size : Nat) : Int) + 1) = (bh : Int) := by have := h.sz; have := h.s0; have := h.so; have := h.hb; rw [IntKind.wrap_i64]; omega
  have HM := Lib.hid hm
  have HT := Lib.hid hT
  rw [if_neg (by omega)] at CD
  have CD2 := Lib.hid (fun w => digits_any under bh w (by have := h.su; omega) (by have := h.hb; have := h.sz; have := h.s0; have := h.so; omega))
  rw [if_neg (by omega)] at CD2
  have CN := Lib.hid (fun w => nat_ok over fr w (by have := h.so; omega) (by have := h.sz; have := h.s0; omega) h0 hd he)
  have CN2 := Lib.hid (fun w => nat_ok under bh w (by have := h.su; omega) (by have := h.hb; have := h.sz; have := h.s0; have := h.so; omega) h2 hd2 he2)
  clear h0 hd h2 hd2 he he2
  clear hm hT
  generalize ((fr + over.size : Nat) : Int) = q1 at *
  generalize (natP (bl over)).2.2 = v at *
  generalize (natP (bl under)).2.2 = u at *
  have CL := Lib.hid (fun F A c B k w hF h1 h2 hT => low_rat F neg A B c k v u w hF h1 h2 hT hl1 hl2 hz)
  have hz2 : ((((limbs u).length : Nat) : Int) == 0) = false := by
    have := (limbs_ne hz).2
    rw [beq_eq_false_iff_ne]; omega
  clear hz hl1 hl2
  unfold RRa RFr at CL
  unfold RRd
  dsimp only
  generalize frac neg v u = x at *
  generalize (limbs v).length = lv at *
  generalize (limbs u).length = lu at *
  generalize rneg x = sx at *
  generalize (limbs (rn x)).length = lx at *
  generalize (limbs x.den).length = mx at *
  go_enter Tryz.func68, Tryz.ntmps68
  go_wp2_with (with_reducible refine G.any_mark _ ?_; (try generalize Array.size (World.heap (G.w _)) = bk); (try dsimp only [List.set_cons_zero, List.set_cons_succ]); (try clear g); intro g)
  refine (CP.out _).mono ?_
  rintro e w1 ⟨rfl, hb⟩
  obtain ⟨g1, rfl⟩ := G.call_ex _ hb
  clear hb
  (try clear g)
  revert g1
  intro g
  go_wp2_with (with_reducible refine G.any_mark _ ?_; (try generalize Array.size (World.heap (G.w _)) = bk); (try dsimp only [List.set_cons_zero, List.set_cons_succ]); (try clear g); intro g)
  refine (CC.out _ (G.oldcell g HM.out)).mono ?_
  rintro e w1 ⟨rfl, hb⟩
  obtain ⟨g1, rfl⟩ := G.call_ex _ hb
  clear hb
  (try clear g)
  revert g1
  intro g
  go_wp2_with (with_reducible refine G.any_mark _ ?_; (try generalize Array.size (World.heap (G.w _)) = bk); (try dsimp only [List.set_cons_zero, List.set_cons_succ]); (try clear g); intro g)
  refine (CD.out _).mono ?_
  rintro e w1 ⟨rfl, hb⟩
  obtain ⟨g1, rfl⟩ := G.call_ex _ hb
  clear hb
  (try clear g)
  revert g1
  intro g
  go_wp2_with (with_reducible refine G.any_mark _ ?_; (try generalize Array.size (World.heap (G.w _)) = bk); (try dsimp only [List.set_cons_zero, List.set_cons_succ]); (try clear g); intro g)
  refine (CD2.out _).mono ?_
  rintro e w1 ⟨rfl, hb⟩
  obtain ⟨g1, rfl⟩ := G.call_ex _ hb
  clear hb
  (try clear g)
  revert g1
  intro g
  go_wp2_with (with_reducible refine G.any_mark _ ?_; (try generalize Array.size (World.heap (G.w _)) = bk); (try dsimp only [List.set_cons_zero, List.set_cons_succ]); (try clear g); intro g)
  refine (CN.out _).mono ?_
  rintro e w1 ⟨Ap, cp, Fp, rfl, hsp, hn⟩
  have hop := New.over hn nilF (G.chg _).size
  obtain ⟨g1, rfl⟩ := G.new_ex _ hn
  clear hn
  (try clear g)
  revert g1
  intro g
  go_wp2_with (with_reducible refine G.any_mark _ ?_; (try generalize Array.size (World.heap (G.w _)) = bk); (try dsimp only [List.set_cons_zero, List.set_cons_succ]); (try clear g); intro g)
  refine (CN2.out _).mono ?_
  rintro e w1 ⟨Aq, cq, Fq, rfl, hsq, hn⟩
  have hoq := New.over hn nilF (G.chg _).size
  obtain ⟨g1, rfl⟩ := G.new_ex _ hn
  clear hn
  (try clear g)
  revert g1
  intro g
  go_wp2_with (with_reducible refine G.any_mark _ ?_; (try generalize Array.size (World.heap (G.w _)) = bk); (try dsimp only [List.set_cons_zero, List.set_cons_succ]); (try clear g); intro g)
  (try (refine cmark _ ?_; (try dsimp only [List.set_cons_zero, List.set_cons_succ]); (try clear g); intro g))
  refine (CL.out (g.fr nilF) _ _ _ _ _ (g.fr_sub (by simp)) (g.fr_sl (by simp) hop hsp) (g.fr_sl (by simp) hoq hsq) (G.tab g HT.out)).mono ?_
  rintro e w1 ⟨Y1, y1, Q1, Y2, y2, Q2, rfl, hy1, hy2, hn1, hn2⟩
  obtain ⟨g1, rfl, hov1, hov2⟩ := G.new3_ex g hn1 hn2
  clear hn1 hn2
  (try clear g)
  revert g1
  intro g
  go_wp2_with (with_reducible refine G.any_mark _ ?_; (try generalize Array.size (World.heap (G.w _)) = bk); (try dsimp only [List.set_cons_zero, List.set_cons_succ]); (try clear g); intro g)
  refine bodyPost_ret (v := .tuple #[.agg #[.bool sx, .slice Y1 lx y1, .slice Y2 mx y2], .nilIface]) (by simp [results, Tryz.results68, go_sem]) rfl ?_
  exact .inr ⟨by simp, Y1, y1, Q1, Y2, y2, Q2, rfl, hy1, hy2, G.pass _ (by simp) (over_new hov1), G.pass _ (by simp) (over_new hov2)⟩
end Go.Proofs.YtjdnpkicdmapnaaGreatDoor
namespace Go.Proofs.YtjdnpkicdmapnaaGreatDoor
open Go.RowKit GW NL
theorem natP_val (l : List Nat) : (natP l).2.2 < 2 ^ 8192 := by
  have h0 := Nat.two_pow_pos 8192
  unfold natP
  split
  · exact h0
  · split
    · exact h0
    · split
      · assumption
      · exact h0
theorem bl_mk (l : List UInt8) : bl ⟨l.toArray⟩ = l.map UInt8.toNat := by unfold bl; simp
theorem getD_take {l : List Nat} {k j : Nat} (h : j < k) : (l.take k).getD j 0 = l.getD j 0 := by
  rw [List.getD_eq_getElem?_getD, List.getElem?_take_of_lt h, ← List.getD_eq_getElem?_getD]
theorem dig_take {l : List Nat} {k : Nat} (h : dig l ≤ k) (hk : k ≤ l.length) : dig (l.take k) = dig l := by
  refine dig_uniq (by rw [List.length_take]; omega) (fun j hj => ?_) (fun hj => ?_)
  · rw [getD_take (by omega)]; exact dig_pre l j hj
  · rw [List.length_take] at hj
    rw [getD_take (by omega)]
    exact dig_at l (by omega)
theorem nd_slash : nd 47 = true := by decide
theorem dig_le_fst (l : List Nat) (h : fst 47 l < l.length) : dig l ≤ fst 47 l := by
  rcases Nat.lt_or_ge (fst 47 l) (dig l) with h2 | h2
  · have := dig_pre l _ h2
    rw [fst_at 47 l h, nd_slash] at this
    cases this
  · exact h2
/-- what is known of the rest -/
theorem read_r (s rest : ByteArray) (neg : Bool) (fr : Nat) (p1 : (⟨(Lib.trimPrefix s.data.toList [45]).toArray⟩ : ByteArray) = rest) (p2 : Lib.hasPrefix s.data.toList [45] = neg) (sz : s.size = fr + rest.size) (s0 : s.size ≤ 5000) (m : Int) (w : World) (hm : w.cell? ⟨3, 0, none⟩ = some (.int .i64 m)) (hT : Tab w) :
    Calls Tryz.prog 68 #[.string s] w (RRd (resP neg fr (bl rest)) w) := by
  have hc := cut_one 47 rest.data.toList
  have hbl : rest.data.toList.map UInt8.toNat = bl rest := rfl
  have hlen : rest.data.toList.length = (bl rest).length := by rw [← hbl, List.length_map]
  have hsz : rest.size = (bl rest).length := (bl_len rest).symm
  rw [hbl, hlen, show UInt8.toNat 47 = 47 from rfl] at hc
  obtain ⟨r, hr⟩ : ∃ r, bl rest = r := ⟨_, rfl⟩
  by_cases hf : fst 47 r < r.length
  · -- a slash
    rw [hr, if_pos hf] at hc
    obtain ⟨f, hfe⟩ : ∃ f, fst 47 r = f := ⟨_, rfl⟩
    rw [hfe] at hc hf
    have hfp := fst_pre 47 r
    have hfa := fst_at 47 r (by rw [hfe]; exact hf)
    have hdf := dig_le_fst r (by rw [hfe]; exact hf)
    rw [hfe] at hfp hfa hdf
    have hov : bl ⟨(rest.data.toList.take f).toArray⟩ = r.take f := by rw [bl_mk, List.map_take, hbl, hr]
    have hun : bl ⟨(rest.data.toList.drop (f + 1)).toArray⟩ = r.drop (f + 1) := by rw [bl_mk, List.map_drop, hbl, hr]
    have hos : (⟨(rest.data.toList.take f).toArray⟩ : ByteArray).size = f := by rw [← bl_len, hov, List.length_take]; omega
    have hus : (⟨(rest.data.toList.drop (f + 1)).toArray⟩ : ByteArray).size = (r.drop (f + 1)).length := by rw [← bl_len, hun]
    have hIn : RdIn s rest ⟨(rest.data.toList.take f).toArray⟩ ⟨(rest.data.toList.drop (f + 1)).toArray⟩ neg true fr (fr + f + 1) :=
      ⟨p1, p2, by rw [hc], by rw [hc], by rw [hc], sz, s0, by rw [hos]; rw [hr] at hsz; omega, by rw [hus, List.length_drop]; rw [hr] at hsz; omega, by rw [hos]⟩
    rw [hr]
    have hdo : dig (r.take f) = dig r := dig_take hdf (by omega)
    by_cases hb : f = 0 ∨ dig r < f
    · have h1 := read_bad1 s rest _ _ neg true fr (fr + f + 1) hIn m w hm hT (by rw [hos, hov, hdo]; exact hb)
      rw [hov, hdo] at h1
      have e : resP neg fr r = (11, fr + dig r, (false, 0, 0)) := by
        unfold resP
        by_cases h0 : dig r = 0
        · rw [if_pos h0, h0]; rfl
        · rw [if_neg h0, if_pos (by omega), if_pos (hfp _ (by omega))]
      rw [e]; exact h1
    · have hd : dig r = f := by omega
      have hf0 : f ≠ 0 := by omega
      have e : resP neg fr r = if dig (r.drop (f + 1)) = 0 ∨ dig (r.drop (f + 1)) < (r.drop (f + 1)).length then (11, fr + f + 1 + dig (r.drop (f + 1)), (false, 0, 0))
    else if (natP (r.take f)).1 ≠ 0 then ((natP (r.take f)).1, fr + (natP (r.take f)).2.1, (false, 0, 0))
    else if (natP (r.drop (f + 1))).1 ≠ 0 then ((natP (r.drop (f + 1))).1, fr + f + 1 + (natP (r.drop (f + 1))).2.1, (false, 0, 0))
    else if (natP (r.drop (f + 1))).2.2 = 0 then (6, fr + f + 1, (false, 0, 0))
    else (0, 0, (rneg (frac neg (natP (r.take f)).2.2 (natP (r.drop (f + 1))).2.2), rn (frac neg (natP (r.take f)).2.2 (natP (r.drop (f + 1))).2.2), (frac neg (natP (r.take f)).2.2 (natP (r.drop (f + 1))).2.2).den)) := by
        unfold resP
        rw [hd, if_neg hf0, if_pos hf, if_neg (by rw [hfa]; exact fun h => h rfl)]
      rw [e]
      have o0 : (⟨(rest.data.toList.take f).toArray⟩ : ByteArray).size ≠ 0 := by rw [hos]; exact hf0
      have od : dig (bl ⟨(rest.data.toList.take f).toArray⟩) = (⟨(rest.data.toList.take f).toArray⟩ : ByteArray).size := by rw [hov, hdo, hos]; exact hd
      have hdl := dig_le (r.drop (f + 1))
      by_cases hu : dig (r.drop (f + 1)) = 0 ∨ dig (r.drop (f + 1)) < (r.drop (f + 1)).length
      · rw [if_pos hu]
        have h1 := read_bad2 s rest _ _ neg true fr (fr + f + 1) hIn m w hm hT o0 od rfl (by rw [hus, hun]; omega)
        rw [hun] at h1
        exact h1
      · rw [if_neg hu]
        have u0 : (⟨(rest.data.toList.drop (f + 1)).toArray⟩ : ByteArray).size ≠ 0 := by rw [hus]; omega
        have ud : dig (bl ⟨(rest.data.toList.drop (f + 1)).toArray⟩) = (⟨(rest.data.toList.drop (f + 1)).toArray⟩ : ByteArray).size := by rw [hun, hus]; omega
        by_cases e1 : (natP (r.take f)).1 = 0
        · rw [if_neg (by simpa using e1)]
          by_cases e2 : (natP (r.drop (f + 1))).1 = 0
          · rw [if_neg (by simpa using e2)]
            by_cases e3 : (natP (r.drop (f + 1))).2.2 = 0
            · rw [if_pos e3]
              exact read_zero s rest _ _ neg true fr (fr + f + 1) hIn m w hm hT o0 od u0 ud rfl (by rw [hov]; exact e1) (by rw [hun]; exact e2) (by rw [hun]; exact e3)
            · rw [if_neg e3]
              have h1 := read_ok s rest _ _ neg true fr (fr + f + 1) hIn m w hm hT o0 od u0 ud rfl (by rw [hov]; exact e1) (by rw [hun]; exact e2) (by rw [hun]; exact e3) (Nat.le_trans (limbs_256.1 (natP_val _)) (by decide)) (Nat.le_trans (limbs_256.1 (natP_val _)) (by decide))
              rw [hov, hun] at h1
              exact h1
          · rw [if_pos e2]
            have h1 := read_den s rest _ _ neg true fr (fr + f + 1) hIn m w hm hT o0 od u0 ud rfl (by rw [hov]; exact e1) (by rw [hun]; exact e2)
            rw [hun] at h1
            exact h1
        · rw [if_pos e1]
          have h1 := read_num s rest _ _ neg true fr (fr + f + 1) hIn m w hm hT o0 od u0 ud rfl (by rw [hov]; exact e1)
          rw [hov] at h1
          exact h1
  · -- no slash
    rw [hr, if_neg hf] at hc
    have hfp := fst_pre 47 r
    have hdl := dig_le r
    have hrr : (⟨rest.data.toList.toArray⟩ : ByteArray) = rest := by simp
    rw [hr] at hsz
    have hIn : RdIn s rest rest ⟨[].toArray⟩ neg false fr (fr + rest.size + 1) :=
      ⟨p1, p2, by rw [hc], by rw [hc], by rw [hc], sz, s0, by omega, by exact Nat.zero_le _, rfl⟩
    rw [hr]
    by_cases hb : rest.size = 0 ∨ dig r < rest.size
    · have h1 := read_bad1 s rest _ _ neg false fr _ hIn m w hm hT (by rw [hr]; exact hb)
      rw [hr] at h1
      have e : resP neg fr r = (11, fr + dig r, (false, 0, 0)) := by
        unfold resP
        by_cases h0 : dig r = 0
        · rw [if_pos h0, h0]; rfl
        · rw [if_neg h0, if_pos (by omega), if_pos (hfp _ (by omega))]
      rw [e]; exact h1
    · have e : resP neg fr r = if (natP r).1 ≠ 0 then ((natP r).1, fr + (natP r).2.1, (false, 0, 0)) else (0, 0, (neg && decide ((natP r).2.2 ≠ 0), (natP r).2.2, 1)) := by
        unfold resP
        rw [if_neg (by omega), if_neg (by omega)]
      rw [e]
      have o0 : rest.size ≠ 0 := by omega
      have od : dig (bl rest) = rest.size := by rw [hr]; omega
      by_cases e1 : (natP r).1 = 0
      · rw [if_neg (by simpa using e1)]
        have h1 := read_int_ok s rest _ _ neg false fr _ hIn m w hm hT o0 od rfl (by rw [hr]; exact e1)
        rw [hr] at h1
        exact h1
      · rw [if_pos e1]
        have h1 := read_int_err s rest _ _ neg false fr _ hIn m w hm hT o0 od rfl (by rw [hr]; exact e1)
        rw [hr] at h1
        exact h1
theorem pre_minus (l : List UInt8) : Lib.hasPrefix l [45] = decide ((l.map UInt8.toNat).getD 0 0 = 45) := by
  cases l with
  | nil => rfl
  | cons a l =>
    show List.isPrefixOf [45] (a :: l) = _
    simp only [List.isPrefixOf, Bool.and_true, List.map_cons, List.getD_cons_zero]
    by_cases h : a = 45
    · subst h; rfl
    · have : ¬ a.toNat = 45 := fun hh => h (UInt8.toNat_inj.1 hh)
      rw [decide_eq_false this]
      simpa using fun hh : 45 = a => h hh.symm
theorem read_any (s : ByteArray) (s0 : s.size ≤ 5000) (m : Int) (w : World) (hm : w.cell? ⟨3, 0, none⟩ = some (.int .i64 m)) (hT : Tab w) :
    Calls Tryz.prog 68 #[.string s] w (RRd (parP (bl s)) w) := by
  have hp := pre_minus s.data.toList
  have hbl : s.data.toList.map UInt8.toNat = bl s := rfl
  rw [hbl] at hp
  unfold parP
  rw [bl_len, if_neg (by omega)]
  by_cases h : (bl s).getD 0 0 = 45
  · rw [if_pos h]
    rw [decide_eq_true h] at hp
    have ht : Lib.trimPrefix s.data.toList [45] = s.data.toList.drop 1 := by unfold Lib.trimPrefix; rw [if_pos hp]; rfl
    have hb : bl ⟨(s.data.toList.drop 1).toArray⟩ = (bl s).drop 1 := by rw [bl_mk, List.map_drop, hbl]
    have hpos : 0 < (bl s).length := by
      rcases Nat.eq_zero_or_pos (bl s).length with h0 | h0
      · rw [List.eq_nil_of_length_eq_zero h0] at h; cases h
      · exact h0
    rw [← hb]
    refine read_r s _ true 1 (by rw [ht]) hp ?_ s0 m w hm hT
    rw [← bl_len, ← bl_len, hb, List.length_drop]
    omega
  · rw [if_neg h]
    rw [decide_eq_false h] at hp
    have ht : Lib.trimPrefix s.data.toList [45] = s.data.toList := by unfold Lib.trimPrefix; rw [hp]; rfl
    exact read_r s s false 0 (by rw [ht]) hp (by omega) s0 m w hm hT
end Go.Proofs.YtjdnpkicdmapnaaGreatDoor
