/- Plain facts and contracts of functions of the program, out of walks. Their conditions stand ahead of each. -/
import Derived.Test.YtcaaecmbbbdopaaDs5
import Derived.Below
import Derived.BigQuiet
import Derived.Deep.DeepCutAuto
import Derived.Deep.Draws
import Derived.Deep.QuietTactic
import Derived.Deep.RegionHeld3
import Derived.Laws.NewBlocks
import Derived.Laws.OwnMore
import Derived.Laws.Pointers
import Derived.Laws.Rows
import Derived.Lib.Hide
import Derived.Maps.AppendAt
import Derived.RowKit3
import Derived.StillTactics
import Derived.StillTailTactics
import Derived.Test.YtcaaecmbbbdopaaProg
import Derived.WalkKit
import Derived.WalkLawsBesides
import Derived.WalkSpells
set_option linter.unusedVariables false
set_option linter.unusedSimpArgs false
namespace Go.Proofs.Ytcaaecmbbbdopaa
open Go.RowKit GW
theorem tmod_pick (x n : Int) (hn : 0 < n) : (x.tmod n < 0 → x.tmod n + n = x % n) ∧ (¬ x.tmod n < 0 → x.tmod n = x % n) ∧ -n < x.tmod n ∧ x.tmod n < n := by
  have e := @Int.tmod_eq_emod x n
  have h0 := Int.emod_nonneg x (show n ≠ 0 by omega)
  have h1 := Int.emod_lt_of_pos x hn
  split at e
  · rename_i h
    rw [e]; omega
  · rename_i h
    have hd : x % n ≠ 0 := fun hz => h (Or.inr (Int.dvd_of_emod_eq_zero hz))
    rw [e]; omega
theorem ret_int0 {k : IntKind} {a b : Int} (h : a = b) : Ending.returned (.int k a) = .returned (.int k b) := by rw [h]
theorem turn_any (x n : Int) (h : 1 ≤ n) (hn : n ≤ 1000000000000) (w : World) :
    Calls Try.prog 5 #[.int .i64 x, .int .i64 n] w fun e w' => e = .returned (.int .i64 (x % n)) ∧ Below w.heap.size w w' := by
  obtain ⟨t1, t2, t3, t4⟩ := tmod_pick x n (by omega)
  by_cases g : x.tmod n < 0
  · have H := Lib.hid (t1 g)
    clear t1 t2
    go_enter Try.func5, Try.ntmps5
    go_wp2_with fail
    go_ret
    exact ⟨ret_int0 H.out, Below.refl _ _⟩
  · have H := Lib.hid (t2 g)
    clear t1 t2
    go_enter Try.func5, Try.ntmps5
    go_wp2_with fail
    go_ret
    exact ⟨ret_int0 H.out, Below.refl _ _⟩
/-- the number that an element selects -/
def smF (l : List Int) (i : Nat) (n : Int) : Int := if i < l.length then l.getD i 0 % n else 0
theorem smF_bd (l : List Int) (i : Nat) {n : Int} (h : 1 ≤ n) : 0 ≤ smF l i n ∧ smF l i n < n := by
  unfold smF
  split
  · exact ⟨Int.emod_nonneg _ (by omega), Int.emod_lt_of_pos _ (by omega)⟩
  · omega
theorem some_any (A : Option Addr) (c : Nat) (l : List Int) (i : Nat) (n : Int) (h : 1 ≤ n) (hn : n ≤ 1000000000000) (w : World) (hs : SiW w A c l) (hi : i ≤ 1000000) :
    Calls Try.prog 19 #[.slice A l.length c, .int .i64 (i : Int), .int .i64 n] w fun e w' => e = .returned (.int .i64 (smF l i n)) ∧ Below w.heap.size w w' := by
  have hm := hs.len
  have hmm := hs.max
  have hc := hs.cap
  unfold smF
  by_cases hlt : i < l.length
  · obtain ⟨b, o, rfl, hcell⟩ := intsW_cell hs.ints (by omega)
    have e1 := hcell i hlt
    clear hcell
    rw [if_pos hlt]
    generalize l.getD i 0 = x at e1 ⊢
    generalize l.length = m at *
    have HT := Lib.hid (turn_any x n h hn)
    go_enter Try.func19, Try.ntmps19
    go_wp2_with fail
    refine (HT.out _).mono ?_
    rintro e w1 ⟨rfl, hb⟩
    go_wp2_with fail
    go_ret
    exact ⟨rfl, hb⟩
  · rw [if_neg hlt]
    generalize l.length = m at *
    go_enter Try.func19, Try.ntmps19
    go_wp2_with fail
    go_ret
    exact ⟨rfl, Below.refl _ _⟩
@[reducible] def emV (prn dl rt st ph am ba : Int) (v : Value) : Value := .agg #[.int .i64 prn, .int .i64 dl, .int .i64 rt, .int .u32 st, .int .u32 ph, .int .i64 am, .int .i64 ba, v]
end Go.Proofs.Ytcaaecmbbbdopaa
namespace Go.Proofs.Ytcaaecmbbbdopaa
open Go.RowKit GW
theorem info_parts {P : Program} {t : TypeId} {z : Value} {s b : Nat} (h : (P.info? t).map (fun i => (i.zero, i.size, i.bytes)) = some (some z, s, b)) : ∃ i, P.info? t = some i ∧ i.zero = some z ∧ i.size = s ∧ i.bytes = b := by
  cases hi : P.info? t with
  | none => rw [hi] at h; cases h
  | some i => rw [hi] at h; simp at h; exact ⟨i, rfl, h.1, h.2.1, h.2.2⟩
theorem infoInt : (Try.prog.info? 3).map (fun i => (i.zero, i.size, i.bytes)) = some (some (.int .i64 0), 1, 8) := by kernel_rfl
/-- the codes of a plan -/
def prns (fi : Int) (k : Nat) : List Int := (List.range k).map fun j : Nat => fi + 4 * (j : Int)
theorem prns_succ (fi : Int) (k : Nat) : prns fi (k + 1) = prns fi k ++ [fi + 4 * (k : Int)] := by unfold prns; rw [List.range_succ, List.map_append]; rfl
theorem prns_len (fi : Int) (k : Nat) : (prns fi k).length = k := by simp [prns]
theorem prns_get (fi : Int) (k j : Nat) (h : j < k) : (prns fi k).getD j 0 = fi + 4 * (j : Int) := by
  rw [List.getD_eq_getElem?_getD, prns, List.getElem?_map, List.getElem?_range h]; rfl
/-- a plan: Degree, Over, PerBit, MinAmp, MaxAmp, Noise and the codes fi, fi + 4, .. -/
@[reducible] def planV (d ov pb ma mx nz : Int) (p : Value) : Value := .agg #[.int .i64 d, .int .i64 ov, .int .i64 pb, .int .i64 2, .int .i64 ma, .int .i64 mx, .int .i64 nz, p]
def RPlan (l : List Int) (w : World) (e : Ending) (w' : World) : Prop :=
  ∃ d ma mx b c F, e = .returned (planV d (1 + smF l 1 3) (1 + smF l 2 3) ma mx (smF l 4 50) (.slice (some ⟨b, 0, none⟩) ((smF l 7 3).toNat + 1) c)) ∧ F.Si (some ⟨b, 0, none⟩) c (prns (1 + smF l 6 20) ((smF l 7 3).toNat + 1)) ∧ New w w' F
set_option maxRecDepth 20000 in
theorem plan_ex (A : Option Addr) (c : Nat) (l : List Int) (w : World) (hs : SiW w A c l) :
    Calls Try.prog 6 #[.slice A l.length c] w (RPlan l w) := by
  refine calls_b fun g => ?_
  obtain ⟨ti0, hi, hz0, hz1, hz2⟩ := info_parts infoInt
  have mk := fun (i : Nat) (n v : Int) (h1 : 1 ≤ n) (h2 : n ≤ 1000000000000) (h3 : i ≤ 1000000) (hv : smF l i n = v) => (fun (w : World) (hs : SiW w A c l) => by
    have := some_any A c l i n h1 h2 w hs h3
    rw [hv] at this
    exact this : ∀ w : World, SiW w A c l → Calls Try.prog 19 #[.slice A l.length c, .int .i64 (i : Int), .int .i64 n] w fun e w' => e = .returned (.int .i64 v) ∧ Below w.heap.size w w')
  unfold RPlan
  have b0 := smF_bd l 0 (n := 2) (by decide)
  have b1 := smF_bd l 1 (n := 3) (by decide)
  have b2 := smF_bd l 2 (n := 3) (by decide)
  have b3 := smF_bd l 3 (n := 20) (by decide)
  have b4 := smF_bd l 4 (n := 50) (by decide)
  have b5 := smF_bd l 5 (n := 20) (by decide)
  have b6 := smF_bd l 6 (n := 20) (by decide)
  have b7 := smF_bd l 7 (n := 3) (by decide)
  obtain ⟨x0, h0⟩ : ∃ x, smF l 0 2 = x := ⟨_, rfl⟩
  obtain ⟨x1, h1⟩ : ∃ x, smF l 1 3 = x := ⟨_, rfl⟩
  obtain ⟨x2, h2⟩ : ∃ x, smF l 2 3 = x := ⟨_, rfl⟩
  obtain ⟨x3, h3⟩ : ∃ x, smF l 3 20 = x := ⟨_, rfl⟩
  obtain ⟨x4, h4⟩ : ∃ x, smF l 4 50 = x := ⟨_, rfl⟩
  obtain ⟨x5, h5⟩ : ∃ x, smF l 5 20 = x := ⟨_, rfl⟩
  obtain ⟨x6, h6⟩ : ∃ x, smF l 6 20 = x := ⟨_, rfl⟩
  obtain ⟨n, h7⟩ : ∃ n : Nat, smF l 7 3 = (n : Int) := ⟨(smF l 7 3).toNat, by omega⟩
  have C0 := Lib.hid (mk 0 2 x0 (by decide) (by decide) (by decide) h0)
  have C1 := Lib.hid (mk 1 3 x1 (by decide) (by decide) (by decide) h1)
  have C2 := Lib.hid (mk 2 3 x2 (by decide) (by decide) (by decide) h2)
  have C3 := Lib.hid (mk 3 20 x3 (by decide) (by decide) (by decide) h3)
  have C4 := Lib.hid (mk 4 50 x4 (by decide) (by decide) (by decide) h4)
  have C5 := Lib.hid (mk 5 20 x5 (by decide) (by decide) (by decide) h5)
  have C6 := Lib.hid (mk 6 20 x6 (by decide) (by decide) (by decide) h6)
  have C7 := Lib.hid (mk 7 3 n (by decide) (by decide) (by decide) h7)
  simp only [Int.natCast_zero, Int.cast_ofNat_Int] at C0 C1 C2 C3 C4 C5 C6 C7
  rw [h1, h2, h4, h6, h7]
  rw [h0] at b0; rw [h1] at b1; rw [h2] at b2; rw [h3] at b3; rw [h4] at b4; rw [h5] at b5; rw [h6] at b6; rw [h7] at b7
  rw [Int.toNat_natCast]
  clear h0 h1 h2 h3 h4 h5 h6 h7 mk
  have hw5 : IntKind.i64.wrap (1 + x3 + x5) = 1 + x3 + x5 := by rw [IntKind.wrap_i64]; omega
  generalize l.length = m at *
  go_enter Try.func6, Try.ntmps6
  go_wp2_with (with_reducible refine G.any_mark _ ?_; (try generalize Array.size (World.heap (G.w _)) = bk); (try dsimp only [List.set_cons_zero, List.set_cons_succ]); (try clear g); intro g)
  refine (C0.out _ (G.si g (by simp) hs)).mono ?_
  rintro e w1 ⟨rfl, hb⟩
  obtain ⟨g1, rfl⟩ := G.call_ex _ hb
  clear hb
  (try clear g)
  revert g1
  intro g
  go_wp2_with (with_reducible refine G.any_mark _ ?_; (try generalize Array.size (World.heap (G.w _)) = bk); (try dsimp only [List.set_cons_zero, List.set_cons_succ]); (try clear g); intro g)
  refine (C1.out _ (G.si g (by simp) hs)).mono ?_
  rintro e w1 ⟨rfl, hb⟩
  obtain ⟨g1, rfl⟩ := G.call_ex _ hb
  clear hb
  (try clear g)
  revert g1
  intro g
  go_wp2_with (with_reducible refine G.any_mark _ ?_; (try generalize Array.size (World.heap (G.w _)) = bk); (try dsimp only [List.set_cons_zero, List.set_cons_succ]); (try clear g); intro g)
  refine (C2.out _ (G.si g (by simp) hs)).mono ?_
  rintro e w1 ⟨rfl, hb⟩
  obtain ⟨g1, rfl⟩ := G.call_ex _ hb
  clear hb
  (try clear g)
  revert g1
  intro g
  go_wp2_with (with_reducible refine G.any_mark _ ?_; (try generalize Array.size (World.heap (G.w _)) = bk); (try dsimp only [List.set_cons_zero, List.set_cons_succ]); (try clear g); intro g)
  refine (C3.out _ (G.si g (by simp) hs)).mono ?_
  rintro e w1 ⟨rfl, hb⟩
  obtain ⟨g1, rfl⟩ := G.call_ex _ hb
  clear hb
  (try clear g)
  revert g1
  intro g
  go_wp2_with (with_reducible refine G.any_mark _ ?_; (try generalize Array.size (World.heap (G.w _)) = bk); (try dsimp only [List.set_cons_zero, List.set_cons_succ]); (try clear g); intro g)
  refine (C4.out _ (G.si g (by simp) hs)).mono ?_
  rintro e w1 ⟨rfl, hb⟩
  obtain ⟨g1, rfl⟩ := G.call_ex _ hb
  clear hb
  (try clear g)
  revert g1
  intro g
  go_wp2_with (with_reducible refine G.any_mark _ ?_; (try generalize Array.size (World.heap (G.w _)) = bk); (try dsimp only [List.set_cons_zero, List.set_cons_succ]); (try clear g); intro g)
  go_upto_region 1 with fail
  ((try simp only [G.drew_eq, G.drewN_eq]); (refine G.any_mark _ ?_; (try clear g); intro g))
  rename_i br
  obtain ⟨bp, rfl⟩ : ∃ b : Nat, b = bk := ⟨_, rfl⟩
  obtain ⟨zp, hzp⟩ : ∃ z : List Value, z = [.int .i64 0, .int .i64 0, .int .i64 0, .int .i64 0, .int .i64 0, .int .i64 0, .int .i64 0, .slice none 0 0] := ⟨_, rfl⟩
  go_cut [3] (fun r3 wx => ∃ g : G w [] [(bp, 26, [.int .i64 (5 + x0), .int .i64 (1 + x1), .int .i64 (1 + x2), .int .i64 2, .int .i64 (1 + x3), .int .i64 (1 + x3 + x5), .int .i64 x4, .slice none 0 0]), (bk, 26, [.int .i64 0, .int .i64 0, .int .i64 0, .int .i64 0, .int .i64 0, .int .i64 0, .int .i64 0, .slice none 0 0])] [heapOf w], r3 = .pointer (some ⟨bp, 0, none⟩) ∧ wx = g.w)
  case first =>
    go_region_with (go_at_call 19; refine (C5.out _ (G.si _ (by simp) hs)).mono ?_; rintro e w1 ⟨rfl, hb⟩; obtain ⟨g1, rfl⟩ := G.call_ex _ hb; clear hb; (try clear g); revert g1; intro g)
    all_goals (first | ((try simp only [G.drew_eq, G.drewN_eq]); (refine G.any_mark _ ?_; (try clear g); intro g)) | skip)
    all_goals go_wp2_with fail
    all_goals go_meet
    all_goals exact ⟨g, rfl, rfl⟩
  case rest =>
  obtain ⟨g, rfl, rfl⟩ := hcut
  go_wp2_with (with_reducible refine G.any_mark _ ?_; (try generalize Array.size (World.heap (G.w _)) = bk); (try dsimp only [List.set_cons_zero, List.set_cons_succ]); (try clear g); intro g)
  refine (C6.out _ (G.si g (by simp) hs)).mono ?_
  rintro e w1 ⟨rfl, hb⟩
  obtain ⟨g1, rfl⟩ := G.call_ex _ hb
  clear hb
  (try clear g)
  revert g1
  intro g
  go_wp2_with (with_reducible refine G.any_mark _ ?_; (try generalize Array.size (World.heap (G.w _)) = bk); (try dsimp only [List.set_cons_zero, List.set_cons_succ]); (try clear g); intro g)
  obtain ⟨zl, hzl⟩ : ∃ z : List Value, [.int .i64 0, .int .i64 0, .int .i64 0, .int .i64 0, .int .i64 0, .int .i64 0, .int .i64 0, .slice none 0 0] = z := ⟨_, rfl⟩
  have HZ := Lib.hid hzl
  clear hzl
  obtain ⟨fi, hfi⟩ : ∃ z, 1 + x6 = z := ⟨_, rfl⟩
  rw [hfi]
  have hf1 : 1 ≤ fi ∧ fi ≤ 20 := by omega
  have HF := Lib.hid hf1
  have HP0 : Hid (i64s (prns fi 1) = [.int .i64 fi]) := Lib.hid (by show [Value.int .i64 (fi + 4 * ((0 : Nat) : Int))] = _; rw [show fi + 4 * ((0 : Nat) : Int) = fi by omega])
  have HPS : Hid (∀ k, i64s (prns fi (k + 1)) = i64s (prns fi k) ++ [.int .i64 (fi + 4 * (k : Int))]) := Lib.hid fun k => by rw [prns_succ, i64s_append]; rfl
  have HFI := Lib.hid hfi
  clear hfi hf1
  go_loopg [5] (n + 1) (fun gk s5 wr => ∃ k : Nat, k + gk = n + 1 ∧ s5 = .int .i64 (k : Int) ∧ ((k = 0 ∧ ∃ g : G w [] [(bp, 26, [.int .i64 (5 + x0), .int .i64 (1 + x1), .int .i64 (1 + x2), .int .i64 2, .int .i64 (1 + x3), .int .i64 (1 + x3 + x5), .int .i64 x4, .slice none 0 0]), (bk, 26, [.int .i64 0, .int .i64 0, .int .i64 0, .int .i64 0, .int .i64 0, .int .i64 0, .int .i64 0, .slice none 0 0])] [heapOf w], wr = g.w) ∨ (0 < k ∧ ∃ b cap cs, w.heap.size ≤ b ∧ Row 3 1 k (i64s (prns fi k)) cap cs ∧ ∃ g : G w [] [(b, 3, cs), (bp, 26, [.int .i64 (5 + x0), .int .i64 (1 + x1), .int .i64 (1 + x2), .int .i64 2, .int .i64 (1 + x3), .int .i64 (1 + x3 + x5), .int .i64 x4, .slice (some ⟨b, 0, none⟩) k cap]), (bk, 26, [.int .i64 0, .int .i64 0, .int .i64 0, .int .i64 0, .int .i64 0, .int .i64 0, .int .i64 0, .slice none 0 0])] [heapOf w], wr = g.w)))
  case atStart => exact ⟨0, by omega, rfl, .inl ⟨rfl, g, rfl⟩⟩
  case round =>
    clear g
    obtain ⟨kq, rfl⟩ : ∃ kq : Nat, kq = gk := ⟨_, rfl⟩
    obtain ⟨k, hkg, rfl, hcase⟩ := hrel
    by_cases hk : k < n + 1
    · have hki : (k : Int) ≤ (n : Int) := by omega
      have hk0 : (0 : Int) ≤ (k : Int) := by omega
      rcases hcase with ⟨rfl, g, rfl⟩ | ⟨hk1, b, cap, cs, hb, hrow, g, rfl⟩
      · have hwf : wrap64 fi = fi := by unfold wrap64; have := HF.out; omega
        have H1 : ∀ u ∈ [Value.int .i64 fi], u.oneCell' = true := by intro u hu; rw [List.mem_singleton.1 hu]; rfl
        go_wp2_with (with_reducible refine G.any_mark _ ?_; (try generalize Array.size (World.heap (G.w _)) = bk); (try dsimp only [List.set_cons_zero, List.set_cons_succ]); (try clear g); intro g)
        refine (C7.out _ (G.si g (by simp) hs)).mono ?_
        rintro e w1 ⟨rfl, hb⟩
        obtain ⟨g1, rfl⟩ := G.call_ex _ hb
        clear hb
        (try clear g)
        revert g1
        intro g
        go_wp2_with (first | (with_reducible refine G.any_mark _ ?_; (try generalize Array.size (World.heap (G.w _)) = bk); (try dsimp only [List.set_cons_zero, List.set_cons_succ]); (try clear g); intro g) | (at_builtin; refine wpList_append_lit0 rfl _ _ 22 rfl 3 ti0 _ 1 8 Try.underlying22 hi hz0 hz1 hz2 rfl (by decide) g rfl 1 rfl rfl H1 (by decide) (by decide) (by decide) ?_; clear g; intro b cap cs g hb hrow))
        (refine G.any_mark _ ?_; (try dsimp only [List.set_cons_zero, List.set_cons_succ]); (try clear g); intro g)
        go_roundg (kq - 1)
        case measure => omega
        case rel => exact ⟨1, by omega, by go_num, .inr ⟨by omega, b, cap, cs, hb, by rw [HP0.out]; exact hrow, g, rfl⟩⟩
      · have hkn3 : k ≤ 3 := by omega
        have hwf : wrap64 (4 * (k : Int)) = 4 * (k : Int) := by unfold wrap64; omega
        have hwf2 : wrap64 (fi + 4 * (k : Int)) = fi + 4 * (k : Int) := by unfold wrap64; have := HF.out; omega
        have H1 : ∀ u ∈ [Value.int .i64 (fi + 4 * (k : Int))], u.oneCell' = true := by intro u hu; rw [List.mem_singleton.1 hu]; rfl
        have H2 : k + 1 ≤ maxLen := by show k + 1 ≤ 9223372036854775807; omega
        have H3 : (k + 1) * 8 ≤ 140737488355328 := by omega
        go_wp2_with (with_reducible refine G.any_mark _ ?_; (try generalize Array.size (World.heap (G.w _)) = bk); (try dsimp only [List.set_cons_zero, List.set_cons_succ]); (try clear g); intro g)
        refine (C7.out _ (G.si g (by simp) hs)).mono ?_
        rintro e w1 ⟨rfl, hb⟩
        obtain ⟨g1, rfl⟩ := G.call_ex _ hb
        clear hb
        (try clear g)
        revert g1
        intro g
        go_wp2_with (first | (with_reducible refine G.any_mark _ ?_; (try generalize Array.size (World.heap (G.w _)) = bk); (try dsimp only [List.set_cons_zero, List.set_cons_succ]); (try clear g); intro g) | (at_builtin; refine wpList_append_lit rfl _ _ 22 rfl 3 ti0 _ 1 8 Try.underlying22 hi hz0 hz1 hz2 rfl (by decide) g hrow hb rfl 1 rfl rfl H1 (by decide) H2 H3 ?_; clear hb hrow g; intro b cap cs g hb hrow))
        (refine G.any_mark _ ?_; (try dsimp only [List.set_cons_zero, List.set_cons_succ]); (try clear g); intro g)
        go_roundg (kq - 1)
        case measure => omega
        case rel => exact ⟨k + 1, by omega, by go_num, .inr ⟨by omega, b, cap, cs, hb, by rw [HPS.out]; exact hrow, g, rfl⟩⟩
    · have hkn : k = n + 1 := by omega
      subst hkn
      have hki : ¬ (((n + 1 : Nat) : Int) ≤ (n : Int)) := by omega
      rcases hcase with ⟨h0, g, rfl⟩ | ⟨hk1, b, cap, cs, hb, hrow, g, rfl⟩
      · omega
      · go_wp2_with (with_reducible refine G.any_mark _ ?_; (try generalize Array.size (World.heap (G.w _)) = bk); (try dsimp only [List.set_cons_zero, List.set_cons_succ]); (try clear g); intro g)
        refine (C7.out _ (G.si g (by simp) hs)).mono ?_
        rintro e w1 ⟨rfl, hb⟩
        obtain ⟨g1, rfl⟩ := G.call_ex _ hb
        clear hb
        (try clear g)
        revert g1
        intro g
        go_wp2_with (with_reducible refine G.any_mark _ ?_; (try generalize Array.size (World.heap (G.w _)) = bk); (try dsimp only [List.set_cons_zero, List.set_cons_succ]); (try clear g); intro g)
        (refine G.any_mark _ ?_; (try dsimp only [List.set_cons_zero, List.set_cons_succ]); (try clear g); intro g)
        have hS := si_row (b := b) hrow (prns_len _ _) (by omega) (fun j => by
          by_cases hj : j < n + 1
          · rw [prns_get _ _ _ hj]; have := HF.out; omega
          · rw [List.getD_eq_getElem?_getD, List.getElem?_eq_none (by rw [prns_len]; omega)]; exact ⟨by decide, by decide⟩)
        refine bodyPost_ret (v := planV (5 + x0) (1 + x1) (1 + x2) (1 + x3) (1 + x3 + x5) x4 (.slice (some ⟨b, 0, none⟩) (n + 1) cap)) (by simp [results, Try.results6, go_sem]) rfl ⟨_, _, _, b, cap, _, rfl, by rw [HFI.out]; exact hS, g.give (List.mem_cons_self ..)⟩
end Go.Proofs.Ytcaaecmbbbdopaa
namespace Go.Proofs.Ytcaaecmbbbdopaa
open Go.RowKit GW
/-- the exclusive sum of the bits that the first j taps name -/
def xr (t s : List Int) (k : Nat) : Nat → Int
  | 0 => 0
  | j + 1 => bits .xor .i64 (xr t s k j) (s.getD (k + (t.getD j 0).toNat) 0)
/-- the sequence: the first 5 + k bits -/
def runS (t : List Int) : Nat → List Int
  | 0 => [1, 1, 1, 1, 1]
  | k + 1 => runS t k ++ [xr t (runS t k) k t.length]
theorem runS_len (t : List Int) : ∀ k, (runS t k).length = 5 + k
  | 0 => rfl
  | k + 1 => by rw [runS, List.length_append, runS_len t k]; rfl
theorem xor01 {x y : Int} (hx : x = 0 ∨ x = 1) (hy : y = 0 ∨ y = 1) : bits .xor .i64 x y = 0 ∨ bits .xor .i64 x y = 1 := by
  rcases hx with rfl | rfl <;> rcases hy with rfl | rfl <;> decide
theorem xr01 (t s : List Int) (k : Nat) (hs : ∀ j, s.getD j 0 = 0 ∨ s.getD j 0 = 1) : ∀ j, xr t s k j = 0 ∨ xr t s k j = 1
  | 0 => .inl rfl
  | j + 1 => xor01 (xr01 t s k hs j) (hs _)
theorem runS01 (t : List Int) : ∀ k j, (runS t k).getD j 0 = 0 ∨ (runS t k).getD j 0 = 1
  | 0, j => by
    show ([1, 1, 1, 1, 1] : List Int).getD j 0 = 0 ∨ _
    rw [show runS t 0 = [1, 1, 1, 1, 1] from rfl]
    rcases j with _ | _ | _ | _ | _ | j <;> simp
  | k + 1, j => by
    rw [runS, List.getD_eq_getElem?_getD]
    by_cases h : j < (runS t k).length
    · rw [List.getElem?_append_left h, ← List.getD_eq_getElem?_getD]; exact runS01 t k j
    · rw [List.getElem?_append_right (by omega)]
      rcases hj : j - (runS t k).length with _ | i
      · exact xr01 t _ k (runS01 t k) _
      · simp
set_option maxRecDepth 20000 in
theorem run_ex (At As : Option Addr) (ct cs : Nat) (t : List Int) (w : World) (ht : SiW w At ct t) (hs : SiW w As cs [1, 1, 1, 1, 1]) (hb : ∀ j, j < t.length → 0 ≤ t.getD j 0 ∧ t.getD j 0 < 5) (hl : t.length ≤ 4) :
    Calls Try.prog 49 #[.int .i64 5, .slice At t.length ct, .slice As 5 cs, .int .i64 31] w fun e w' => ∃ b c F, e = .returned (.slice (some ⟨b, 0, none⟩) 31 c) ∧ F.Si (some ⟨b, 0, none⟩) c (runS t 26) ∧ New w w' F := by
  refine calls_b fun g => ?_
  obtain ⟨ti0, hi, hz0, hz1, hz2⟩ := info_parts infoInt
  obtain ⟨bs, os, rfl, _⟩ := hs.ints.cell (by decide)
  have HN := Lib.hid (fun (M : List Blk) (g : G w [] M [heapOf w]) => ints_news g (List.mem_singleton.2 rfl) hs.ints)
  have HT := Lib.hid ht
  have HB := Lib.hid hb
  have HR0 : Hid (i64s (runS t 0) = i64s [1, 1, 1, 1, 1]) := Lib.hid rfl
  have HRS : Hid (∀ k, i64s (runS t (k + 1)) = i64s (runS t k) ++ [.int .i64 (xr t (runS t k) k t.length)]) := Lib.hid fun k => by rw [runS, i64s_append]; rfl
  have HX : Hid (∀ k j, xr t (runS t k) k j = 0 ∨ xr t (runS t k) k j = 1) := Lib.hid fun k j => xr01 t _ k (runS01 t k) j
  have HX0 : Hid (∀ k, xr t (runS t k) k 0 = 0) := Lib.hid fun k => rfl
  have HXS : Hid (∀ k j, xr t (runS t k) k (j + 1) = bits .xor .i64 (xr t (runS t k) k j) ((runS t k).getD (k + (t.getD j 0).toNat) 0)) := Lib.hid fun k j => rfl
  clear hs ht hb
  obtain ⟨n, hn⟩ : ∃ n, t.length = n := ⟨_, rfl⟩
  rw [hn] at hl HRS ⊢
  have HNn := Lib.hid hn
  clear hn
  go_enter Try.func49, Try.ntmps49
  go_wp2_with (first | (with_reducible refine G.any_mark _ ?_; (try generalize Array.size (World.heap (G.w _)) = bk); (try dsimp only [List.set_cons_zero, List.set_cons_succ]); (try clear g); intro g) | (at_builtin; refine wpList_append_e rfl _ _ 22 rfl 3 ti0 _ 1 8 Try.underlying22 hi hz0 hz1 hz2 rfl (by decide) g (g.fresh (List.mem_cons_self ..)) rfl ⟨bs, os, none⟩ 5 cs (i64s [1, 1, 1, 1, 1]) rfl rfl (HN.out _ g) (i64s_one _) (by decide) (by decide) (by decide) ?_; clear g; intro b cap cs' g hb hrow))
  go_loopg [9, 10] 26 (fun gk s9 s10 wr => ∃ (k : Nat) (b cap : Nat) (cs : List Value), k + gk = 26 ∧ s10 = .int .i64 (k : Int) ∧ s9 = .slice (some ⟨b, 0, none⟩) (5 + k) cap ∧ w.heap.size ≤ b ∧ Row 3 1 (5 + k) (i64s (runS t k)) cap cs ∧ ∃ g : G w [] [(b, 3, cs)] [heapOf w], wr = g.w)
  case atStart => exact ⟨0, b, cap, cs', by omega, rfl, rfl, hb, by rw [HR0.out]; exact hrow, g, rfl⟩
  case round =>
    clear g hrow hb
    obtain ⟨ko, rfl⟩ : ∃ ko : Nat, ko = gk := ⟨_, rfl⟩
    obtain ⟨k, b, cap, cs, hkg, rfl, rfl, hb, hrow, g, rfl⟩ := hrel
    by_cases hk : k < 26
    · have hki : (5 : Int) + (k : Int) < 31 := by omega
      have hki2 : (k : Int) + 5 < 31 := by omega
      go_wp2_with (with_reducible refine G.any_mark _ ?_; (try generalize Array.size (World.heap (G.w _)) = bk); (try dsimp only [List.set_cons_zero, List.set_cons_succ]); (try clear g); intro g)
      have hbg := hb
      have HROW := Lib.hid hrow
      go_loopg [11, 12] n (fun gk s11 s12 wr => ∃ (j : Nat), j + gk = n ∧ s12 = .int .i64 (j : Int) ∧ s11 = .int .i64 (xr t (runS t k) k j) ∧ ∃ g : G w [] [(b, 3, cs)] [heapOf w], wr = g.w)
      case atStart => exact ⟨0, by omega, rfl, by rw [HX0.out], g, rfl⟩
      case round =>
        clear g
        obtain ⟨kq, rfl⟩ : ∃ kq : Nat, kq = gk := ⟨_, rfl⟩
        obtain ⟨j, hjg, rfl, rfl, g, rfl⟩ := hrel
        by_cases hj : j < n
        · have hji : (j : Int) < (n : Int) := by omega
          have hj0 : (0 : Int) ≤ (j : Int) := by omega
          have hjt : j < t.length := by rw [HNn.out]; exact hj
          obtain ⟨bt, ot, rfl, hcell⟩ := ints_cells HT.out.ints (by omega)
          have hct := hcell j hjt
          clear hcell
          obtain ⟨τ, hτ⟩ : ∃ τ : Nat, t.getD j 0 = (τ : Int) := ⟨(t.getD j 0).toNat, by have := HB.out j hjt; omega⟩
          have hτ5 : τ < 5 := by have := HB.out j hjt; omega
          rw [hτ] at hct
          have HS := Lib.hid (HXS.out k j)
          rw [hτ, Int.toNat_natCast] at HS
          obtain ⟨v, hv⟩ : ∃ v, (runS t k).getD (k + τ) 0 = v := ⟨_, rfl⟩
          obtain ⟨x, hx⟩ : ∃ x, xr t (runS t k) k j = x := ⟨_, rfl⟩
          obtain ⟨kt, hkt⟩ : ∃ kt, k + τ = kt := ⟨_, rfl⟩
          have hf : (k : Int) + (τ : Int) = (kt : Int) := by omega
          have hf1 : IntKind.i64.wrap (kt : Int) = (kt : Int) := by rw [IntKind.wrap_i64]; omega
          have hf2 : wrap64 (kt : Int) = (kt : Int) := by unfold wrap64; omega
          have hf3 : (kt : Int) < 5 + (k : Int) := by omega
          have hf4 : kt < 5 + k := by omega
          have hcs : cs[kt]? = some (.int .i64 v) := by
            have h2 := HROW.out.take
            rw [Nat.mul_one] at h2
            have h3 : (cs.take (5 + k))[kt]? = cs[kt]? := List.getElem?_take_of_lt hf4
            rw [← h3, h2, i64s_getD (by rw [runS_len]; exact hf4), ← hkt, hv]
          have hct' := hct _ _ _ _ g (List.mem_singleton.2 rfl)
          rw [hv, hx, ] at HS
          rw [hx]
          clear hct hτ hv hkt
          go_wp2_with (with_reducible refine G.any_mark _ ?_; (try generalize Array.size (World.heap (G.w _)) = bk); (try dsimp only [List.set_cons_zero, List.set_cons_succ]); (try clear g); intro g)
          go_roundg (kq - 1)
          case measure => omega
          case rel => exact ⟨j + 1, by omega, by go_num, by rw [HS.out], g, rfl⟩
        · have hjn : j = n := by omega
          subst hjn
          have H1 : ∀ u ∈ [Value.int .i64 (xr t (runS t k) k j)], u.oneCell' = true := by intro u hu; rw [List.mem_singleton.1 hu]; rfl
          have H2 : 5 + k + 1 ≤ maxLen := by show 5 + k + 1 ≤ 9223372036854775807; omega
          have H3 : (5 + k + 1) * 8 ≤ 140737488355328 := by omega
          have hRS := Lib.hid (HRS.out k)
          have hrow := HROW.out
          generalize xr t (runS t k) k j = x at *
          go_wp2_with (first | (with_reducible refine G.any_mark _ ?_; (try generalize Array.size (World.heap (G.w _)) = bk); (try dsimp only [List.set_cons_zero, List.set_cons_succ]); (try clear g); intro g) | (at_builtin; refine wpList_append_lit rfl _ _ 22 rfl 3 ti0 _ 1 8 Try.underlying22 hi hz0 hz1 hz2 rfl (by decide) g hrow hbg rfl 1 rfl rfl H1 (by decide) H2 H3 ?_; clear hrow g; intro b cap cs g hb hrow))
          go_roundg (ko - 1)
          case measure => omega
          case rel => exact ⟨k + 1, b, cap, cs, by omega, by go_num, rfl, hb, by rw [hRS.out]; exact hrow, g, rfl⟩
    · have hk26 : k = 26 := by omega
      subst hk26
      go_wp2_with (with_reducible refine G.any_mark _ ?_; (try generalize Array.size (World.heap (G.w _)) = bk); (try dsimp only [List.set_cons_zero, List.set_cons_succ]); (try clear g); intro g)
      go_ret
      exact ⟨b, cap, _, rfl, si_row hrow (runS_len _ _) (by omega) (fun j => by rcases runS01 t 26 j with h | h <;> rw [h] <;> decide), g.give (List.mem_cons_self ..)⟩
end Go.Proofs.Ytcaaecmbbbdopaa
namespace Go.Proofs.Ytcaaecmbbbdopaa
open Go.RowKit GW
theorem length5 (w : World) : Calls Try.prog 36 #[.int .i64 5] w fun e w' => e = .returned (.tuple #[.int .i64 31, .int .i64 0]) ∧ Below w.heap.size w w' := by
  go_enter Try.func36, Try.ntmps36
  go_wp2_with fail
  go_ret2
  exact ⟨rfl, Below.refl _ _⟩
theorem rng_mem {l : List Int} (h : ∀ x ∈ l, -9223372036854775808 ≤ x ∧ x < 9223372036854775808) (j : Nat) : -9223372036854775808 ≤ l.getD j 0 ∧ l.getD j 0 < 9223372036854775808 := by
  rw [List.getD_eq_getElem?_getD]
  cases hj : l[j]? with
  | none => exact ⟨by decide, by decide⟩
  | some x => exact h x (List.mem_of_getElem? hj)
/-- the taps of the two registers of degree 5 -/
def tapF (which : Nat) : List Int := if which = 1 then [0, 2] else [0, 2, 3, 4]
def RTaps (l : List Int) (n : Nat) (w : World) (e : Ending) (w' : World) : Prop := ∃ b F, e = .returned (.tuple #[.slice (some ⟨b, 0, none⟩) n n, .int .i64 0]) ∧ F.Si (some ⟨b, 0, none⟩) n l ∧ New w w' F
theorem taps1 (w : World) : Calls Try.prog 48 #[.int .i64 5, .int .i64 1] w (RTaps [0, 2] 2 w) := by
  refine calls_b fun g => ?_
  unfold RTaps
  go_enter Try.func48, Try.ntmps48
  go_wp2_with (with_reducible refine G.any_mark _ ?_; (try generalize Array.size (World.heap (G.w _)) = bk); (try dsimp only [List.set_cons_zero, List.set_cons_succ]); (try clear g); intro g)
  refine (length5 _).mono ?_
  rintro e w1 ⟨rfl, hb⟩
  obtain ⟨g1, rfl⟩ := G.call_ex _ hb
  clear hb
  (try clear g)
  revert g1
  intro g
  go_wp2_with (with_reducible refine G.any_mark _ ?_; (try generalize Array.size (World.heap (G.w _)) = bk); (try dsimp only [List.set_cons_zero, List.set_cons_succ]); (try clear g); intro g)
  go_ret2
  exact ⟨bk, _, rfl, si_blk (l := [0, 2]) (by decide) (by decide) (rng_mem (by decide)), g.give (List.mem_cons_self ..)⟩
theorem taps2 (w : World) : Calls Try.prog 48 #[.int .i64 5, .int .i64 2] w (RTaps [0, 2, 3, 4] 4 w) := by
  refine calls_b fun g => ?_
  unfold RTaps
  go_enter Try.func48, Try.ntmps48
  go_wp2_with (with_reducible refine G.any_mark _ ?_; (try generalize Array.size (World.heap (G.w _)) = bk); (try dsimp only [List.set_cons_zero, List.set_cons_succ]); (try clear g); intro g)
  refine (length5 _).mono ?_
  rintro e w1 ⟨rfl, hb⟩
  obtain ⟨g1, rfl⟩ := G.call_ex _ hb
  clear hb
  (try clear g)
  revert g1
  intro g
  go_wp2_with (with_reducible refine G.any_mark _ ?_; (try generalize Array.size (World.heap (G.w _)) = bk); (try dsimp only [List.set_cons_zero, List.set_cons_succ]); (try clear g); intro g)
  go_ret2
  exact ⟨bk, _, rfl, si_blk (l := [0, 2, 3, 4]) (by decide) (by decide) (rng_mem (by decide)), g.give (List.mem_cons_self ..)⟩
theorem zeros_i (n : Nat) : i64s (List.replicate n 0) = List.replicate n (.int .i64 0) := by simp [i64s]
theorem madeInts (n : Nat) : madeCells (Value.int .i64 0).cells (n * 1) = (i64s (List.replicate n 0)).toArray := by
  rw [zeros_i, Nat.mul_one]
  apply Array.toList_inj.1
  exact (toList_madeCells_one _ _).trans (by simp)
theorem make_ints (n : Nat) (hn : n ≤ 17592186044416) (w : World) : (Instr.makeSlice 22 (.int .i64 (n : Int)) (.int .i64 (n : Int))).run Try.prog w = .ok (.slice (some ⟨w.heap.size, 0, none⟩) n n) (w.alloc (.cells (i64s (List.replicate n 0)).toArray 3)) := by
  obtain ⟨i0, hi, hz0, hz1, hz2⟩ := info_parts infoInt
  have h := run_make (P := Try.prog) w 22 3 i0 _ Try.underlying22 hi hz0 .i64 .i64 n n (by omega) (by omega) (by rw [hz2]; omega) (by omega)
  rw [hz1] at h
  simp only [Int.toNat_natCast] at h
  rw [h, madeInts]
def ones5 (k : Nat) : List Int := List.replicate k 1 ++ List.replicate (5 - k) 0
theorem ones5_set (k : Nat) (h : k < 5) : (i64s (ones5 k)).set k (.int .i64 1) = i64s (ones5 (k + 1)) := by
  rcases k with _ | _ | _ | _ | _ | k
  · rfl
  · rfl
  · rfl
  · rfl
  · rfl
  · omega
def RBits (l : List Int) (w : World) (e : Ending) (w' : World) : Prop := ∃ b c F, e = .returned (.tuple #[.slice (some ⟨b, 0, none⟩) 31 c, .int .i64 0]) ∧ F.Si (some ⟨b, 0, none⟩) c l ∧ New w w' F
set_option maxRecDepth 20000 in
theorem bits_ex (wh : Int) (t : List Int) (n : Nat) (hn : t.length = n) (h4 : n ≤ 4) (hb : ∀ j, j < t.length → 0 ≤ t.getD j 0 ∧ t.getD j 0 < 5) (CT : ∀ w, Calls Try.prog 48 #[.int .i64 5, .int .i64 wh] w (RTaps t n w)) (w : World) : Calls Try.prog 37 #[.int .i64 5, .int .i64 wh] w (RBits (runS t 26) w) := by
  refine calls_b fun g => ?_
  unfold RBits
  unfold RTaps at CT
  have hmk := fun w => make_ints 5 (by decide) w
  simp only [Int.cast_ofNat_Int] at hmk
  have CR := Lib.hid (fun At As ct cs w ht hs => run_ex At As ct cs t w ht hs hb (by omega))
  rw [hn] at CR
  have HO : Hid (∀ k, k < 5 → (i64s (ones5 k)).set k (.int .i64 1) = i64s (ones5 (k + 1))) := Lib.hid ones5_set
  go_enter Try.func37, Try.ntmps37
  go_wp2_with (with_reducible refine G.any_mark _ ?_; (try generalize Array.size (World.heap (G.w _)) = bk); (try dsimp only [List.set_cons_zero, List.set_cons_succ]); (try clear g); intro g)
  refine (CT _).mono ?_
  rintro e w1 ⟨bt, Ft, rfl, ht, hn'⟩
  obtain ⟨g1, rfl⟩ := G.new_ex _ hn'
  clear hn' g CT
  revert g1
  intro g
  go_wp2_with (with_reducible refine G.any_mark _ ?_; (try generalize Array.size (World.heap (G.w _)) = bk); (try dsimp only [List.set_cons_zero, List.set_cons_succ]); (try clear g); intro g)
  refine (length5 _).mono ?_
  rintro e w1 ⟨rfl, hb⟩
  obtain ⟨g1, rfl⟩ := G.call_ex _ hb
  clear hb
  (try clear g)
  revert g1
  intro g
  go_wp2_with (with_reducible refine G.any_mark _ ?_; (try generalize Array.size (World.heap (G.w _)) = bk); (try dsimp only [List.set_cons_zero, List.set_cons_succ]); (try clear g); intro g)
  obtain ⟨b0, rfl⟩ : ∃ b0 : Nat, b0 = bk := ⟨_, rfl⟩
  go_loopg [11] 5 (fun gk s11 wr => ∃ (k : Nat), k + gk = 5 ∧ s11 = .int .i64 (k : Int) ∧ ∃ g : G w [] [(b0, 3, i64s (ones5 k))] [Ft, heapOf w], wr = g.w)
  case atStart => exact ⟨0, by omega, rfl, g, rfl⟩
  case round =>
    clear g
    obtain ⟨kq, rfl⟩ : ∃ kq : Nat, kq = gk := ⟨_, rfl⟩
    obtain ⟨k, hkg, rfl, g, rfl⟩ := hrel
    by_cases hk : k < 5
    · have hki : (k : Int) < 5 := by omega
      have hk0 : (0 : Int) ≤ (k : Int) := by omega
      have hcell : (i64s (ones5 k))[k]? = some (.int .i64 0) := by rcases k with _ | _ | _ | _ | _ | k <;> first | rfl | omega
      have hset := HO.out k hk
      go_wp2_with (with_reducible refine G.any_mark _ ?_; (try generalize Array.size (World.heap (G.w _)) = bk); (try dsimp only [List.set_cons_zero, List.set_cons_succ]); (try clear g); intro g)
      go_roundg (kq - 1)
      case measure => omega
      case rel => exact ⟨k + 1, by omega, by go_num, G.as g (by rw [hset])⟩
    · have hk5 : k = 5 := by omega
      subst hk5
      go_wp2_with (with_reducible refine G.any_mark _ ?_; (try generalize Array.size (World.heap (G.w _)) = bk); (try dsimp only [List.set_cons_zero, List.set_cons_succ]); (try clear g); intro g)
      refine (CR.out _ _ _ _ _ (G.si g (by simp) ht) (siM g (T := 3) (b := b0) (l := [1, 1, 1, 1, 1]) (c := 5) (List.mem_cons_self ..) (by decide) (by decide) (rng_mem (by decide)))).mono ?_
      rintro e w1 ⟨br, cr, Fr, rfl, hr, hn'⟩
      have hnn := fun k o hk => Nat.le_trans g.chg.size (hn'.new k o hk)
      obtain ⟨g1, rfl⟩ := G.new_ex _ hn'
      clear hn' g
      revert g1
      intro g
      have hcr := hr.cap
      have hcm := hr.max
      rw [runS_len] at hcr
      have hcr : 31 ≤ cr := hcr
      have hcri : (31 : Int) ≤ (cr : Int) := by omega
      go_wp2_with (with_reducible refine G.any_mark _ ?_; (try generalize Array.size (World.heap (G.w _)) = bk); (try dsimp only [List.set_cons_zero, List.set_cons_succ]); (try clear g); intro g)
      go_ret2
      exact ⟨br, cr, _, rfl, hr, g.pass (List.mem_cons_self ..) hnn⟩
def bitF (which : Nat) : List Int := runS (tapF which) 26
theorem bits1 (w : World) : Calls Try.prog 37 #[.int .i64 5, .int .i64 1] w (RBits (bitF 1) w) :=
  bits_ex 1 [0, 2] 2 rfl (by decide) (by intro j hj; rcases j with _ | _ | j <;> first | (simp; done) | (simp at hj; omega)) taps1 w
theorem bits2 (w : World) : Calls Try.prog 37 #[.int .i64 5, .int .i64 2] w (RBits (bitF 2) w) :=
  bits_ex 2 [0, 2, 3, 4] 4 rfl (by decide) (by intro j hj; rcases j with _ | _ | _ | _ | j <;> first | (simp; done) | (simp at hj; omega)) taps2 w
end Go.Proofs.Ytcaaecmbbbdopaa
namespace Go.Proofs.Ytcaaecmbbbdopaa
open Go.RowKit GW
theorem bitF_len (n : Nat) : (bitF n).length = 31 := by unfold bitF; rw [runS_len]
theorem bitF01 (n j : Nat) : (bitF n).getD j 0 = 0 ∨ (bitF n).getD j 0 = 1 := by unfold bitF; exact runS01 _ _ _
attribute [local irreducible] bitF
/-- the bit of a code at a place -/
def cb (p i : Nat) : Int :=
  if p = 1 then (bitF 1).getD i 0 else if p = 2 then (bitF 2).getD i 0 else bits .xor .i64 ((bitF 1).getD i 0) ((bitF 2).getD ((i + p - 3) % 31) 0)
def cc (p i : Nat) : Int := 1 - 2 * cb p i
/-- the code -/
def codeF (p : Nat) : List Int := (List.range 31).map (cc p)
theorem cb01 (p i : Nat) : cb p i = 0 ∨ cb p i = 1 := by
  unfold cb
  split
  · exact bitF01 _ _
  · split
    · exact bitF01 _ _
    · exact xor01 (bitF01 _ _) (bitF01 _ _)
theorem cc1 (p i : Nat) : cc p i = 1 ∨ cc p i = -1 := by
  unfold cc
  rcases cb01 p i with h | h <;> rw [h] <;> simp
theorem codeF_len (p : Nat) : (codeF p).length = 31 := by simp [codeF]
theorem codeF_get (p i : Nat) (h : i < 31) : (codeF p).getD i 0 = cc p i := by
  rw [List.getD_eq_getElem?_getD, codeF, List.getElem?_map, List.getElem?_range h]; rfl
def partC (p k : Nat) : List Int := (List.range k).map (cc p) ++ List.replicate (31 - k) 0
theorem partC_set (p k : Nat) (h : k < 31) : (i64s (partC p k)).set k (.int .i64 (cc p k)) = i64s (partC p (k + 1)) := by
  rw [i64s_set]
  congr 1
  unfold partC
  rw [List.set_append_right _ _ (by simp), List.length_map, List.length_range, Nat.sub_self, List.range_succ, List.map_append, List.append_assoc]
  congr 1
  obtain ⟨m, hm⟩ : ∃ m, 31 - k = m + 1 := ⟨31 - (k + 1), by omega⟩
  rw [hm, show 31 - (k + 1) = m by omega, List.replicate_succ, List.set_cons_zero]
  rfl
theorem partC_at (p k : Nat) (h : k < 31) : (i64s (partC p k))[k]? = some (.int .i64 0) := by
  rw [i64s_get]
  unfold partC
  rw [List.getElem?_append_right (by simp), List.length_map, List.length_range, Nat.sub_self]
  obtain ⟨m, hm⟩ : ∃ m, 31 - k = m + 1 := ⟨31 - (k + 1), by omega⟩
  rw [hm, List.replicate_succ]
  rfl
theorem partC_end (p : Nat) : partC p 31 = codeF p := by unfold partC codeF; simp
theorem codeF_rng (p j : Nat) : -9223372036854775808 ≤ (codeF p).getD j 0 ∧ (codeF p).getD j 0 < 9223372036854775808 := by
  by_cases h : j < 31
  · rw [codeF_get p j h]; rcases cc1 p j with e | e <;> rw [e] <;> decide
  · rw [List.getD_eq_getElem?_getD, List.getElem?_eq_none (by rw [codeF_len]; omega)]; decide
theorem wr {x : Int} (h : -1000 ≤ x) (h' : x ≤ 1000) : wrap64 x = x := by unfold wrap64; omega
theorem tm31 {n m : Nat} (h : n % 31 = m) : Int.tmod (n : Int) 31 = (m : Int) := by rw [Int.tmod_eq_emod_of_nonneg (by omega)]; omega
def RCode (p : Nat) (w : World) (e : Ending) (w' : World) : Prop := ∃ b F, e = .returned (.tuple #[.slice (some ⟨b, 0, none⟩) 31 31, .int .i64 0]) ∧ F.Si (some ⟨b, 0, none⟩) 31 (codeF p) ∧ New w w' F
set_option maxRecDepth 20000 in
theorem code_1 (w : World) : Calls Try.prog 21 #[.int .i64 5, .int .i64 1] w (RCode 1 w) := by
  refine calls_b fun g => ?_
  unfold RCode
  have C1 := Lib.hid bits1
  have C2 := Lib.hid bits2
  unfold RBits at C1 C2
  have hmk := fun w => make_ints 31 (by decide) w
  simp only [Int.cast_ofNat_Int] at hmk
  go_enter Try.func21, Try.ntmps21
  go_wp2_with (with_reducible refine G.any_mark _ ?_; (try generalize Array.size (World.heap (G.w _)) = bk); (try dsimp only [List.set_cons_zero, List.set_cons_succ]); (try clear g); intro g)
  refine (length5 _).mono ?_
  rintro e w1 ⟨rfl, hb⟩
  obtain ⟨g1, rfl⟩ := G.call_ex _ hb
  clear hb
  (try clear g)
  revert g1
  intro g
  go_wp2_with (with_reducible refine G.any_mark _ ?_; (try generalize Array.size (World.heap (G.w _)) = bk); (try dsimp only [List.set_cons_zero, List.set_cons_succ]); (try clear g); intro g)
  refine (C1.out _).mono ?_
  rintro e w1 ⟨bu, cu, Fu, rfl, hu, hn'⟩
  obtain ⟨g1, rfl⟩ := G.new_ex _ hn'
  clear hn' g C1
  revert g1
  intro g
  go_wp2_with (with_reducible refine G.any_mark _ ?_; (try generalize Array.size (World.heap (G.w _)) = bk); (try dsimp only [List.set_cons_zero, List.set_cons_succ]); (try clear g); intro g)
  refine (C2.out _).mono ?_
  rintro e w1 ⟨bv, cv, Fv, rfl, hv, hn'⟩
  obtain ⟨g1, rfl⟩ := G.new_ex _ hn'
  clear hn' g C2
  revert g1
  intro g
  go_wp2_with (with_reducible refine G.any_mark _ ?_; (try generalize Array.size (World.heap (G.w _)) = bk); (try dsimp only [List.set_cons_zero, List.set_cons_succ]); (try clear g); intro g)
  obtain ⟨b0, rfl⟩ : ∃ b0 : Nat, b0 = bk := ⟨_, rfl⟩
  have hu1 := hu.cap; have hu2 := hu.max; have hv1 := hv.cap; have hv2 := hv.max
  rw [bitF_len 1] at hu1
  rw [bitF_len 2] at hv1
  obtain ⟨b', o', e', hcu⟩ := ints_cells hu.ints (by rw [bitF_len 1]; decide)
  cases e'
  obtain ⟨b', o', e', hcv⟩ := ints_cells hv.ints (by rw [bitF_len 2]; decide)
  cases e'
  rw [bitF_len 1] at hcu
  rw [bitF_len 2] at hcv
  have HU := Lib.hid hcu
  have HV := Lib.hid hcv
  have HS := Lib.hid (partC_set 1)
  have HA := Lib.hid (partC_at 1)
  have HE : Hid (partC 1 31 = codeF 1) := Lib.hid (partC_end 1)
  clear hcu hcv hu hv
  go_loopg [13] 31 (fun gk s13 wr => ∃ (k : Nat), k + gk = 31 ∧ s13 = .int .i64 (k : Int) ∧ ∃ g : G w [] [(b0, 3, i64s (partC 1 k))] [Fv, Fu, heapOf w], wr = g.w)
  case atStart => exact ⟨0, by omega, rfl, g, rfl⟩
  case round =>
    clear g
    obtain ⟨kq, rfl⟩ : ∃ kq : Nat, kq = gk := ⟨_, rfl⟩
    obtain ⟨k, hkg, rfl, g, rfl⟩ := hrel
    by_cases hk : k < 31
    · have hki : (k : Int) < 31 := by omega
      have hk0 : (0 : Int) ≤ (k : Int) := by omega
      have hcell := HA.out k hk
      have hset := HS.out k hk
      have eu := HU.out k hk _ _ _ _ g (by simp)
      have ev := HV.out k hk _ _ _ _ g (by simp)
      rw [Nat.zero_add] at eu ev
      have hb01 := cb01 1 k
      have hcc : cc 1 k = 1 - 2 * cb 1 k := rfl
      have hcb : (bitF 1).getD k 0 = cb 1 k := by unfold cb; rw [if_pos rfl]
      rw [hcb] at eu
      rw [hcc] at hset
      generalize cb 1 k = x at *
      have w1 : wrap64 (2 * x) = 2 * x := by unfold wrap64; omega
      have w2 : wrap64 (1 - 2 * x) = 1 - 2 * x := by unfold wrap64; omega
      clear hb01 hcb hcc
      go_wp2_with (with_reducible refine G.any_mark _ ?_; (try generalize Array.size (World.heap (G.w _)) = bk); (try dsimp only [List.set_cons_zero, List.set_cons_succ]); (try clear g); intro g)
      go_roundg (kq - 1)
      case measure => omega
      case rel => exact ⟨k + 1, by omega, by go_num, G.as g (by rw [hset])⟩
    · have hk31 : k = 31 := by omega
      subst hk31
      go_wp2_with (with_reducible refine G.any_mark _ ?_; (try generalize Array.size (World.heap (G.w _)) = bk); (try dsimp only [List.set_cons_zero, List.set_cons_succ]); (try clear g); intro g)
      go_ret2
      exact ⟨b0, _, rfl, by rw [HE.out]; exact si_blk (by rw [codeF_len]; decide) (by decide) (codeF_rng 1), g.give (List.mem_cons_self ..)⟩
set_option maxRecDepth 20000 in
theorem code_2 (w : World) : Calls Try.prog 21 #[.int .i64 5, .int .i64 2] w (RCode 2 w) := by
  refine calls_b fun g => ?_
  unfold RCode
  have C1 := Lib.hid bits1
  have C2 := Lib.hid bits2
  unfold RBits at C1 C2
  have hmk := fun w => make_ints 31 (by decide) w
  simp only [Int.cast_ofNat_Int] at hmk
  go_enter Try.func21, Try.ntmps21
  go_wp2_with (with_reducible refine G.any_mark _ ?_; (try generalize Array.size (World.heap (G.w _)) = bk); (try dsimp only [List.set_cons_zero, List.set_cons_succ]); (try clear g); intro g)
  refine (length5 _).mono ?_
  rintro e w1 ⟨rfl, hb⟩
  obtain ⟨g1, rfl⟩ := G.call_ex _ hb
  clear hb
  (try clear g)
  revert g1
  intro g
  go_wp2_with (with_reducible refine G.any_mark _ ?_; (try generalize Array.size (World.heap (G.w _)) = bk); (try dsimp only [List.set_cons_zero, List.set_cons_succ]); (try clear g); intro g)
  refine (C1.out _).mono ?_
  rintro e w1 ⟨bu, cu, Fu, rfl, hu, hn'⟩
  obtain ⟨g1, rfl⟩ := G.new_ex _ hn'
  clear hn' g C1
  revert g1
  intro g
  go_wp2_with (with_reducible refine G.any_mark _ ?_; (try generalize Array.size (World.heap (G.w _)) = bk); (try dsimp only [List.set_cons_zero, List.set_cons_succ]); (try clear g); intro g)
  refine (C2.out _).mono ?_
  rintro e w1 ⟨bv, cv, Fv, rfl, hv, hn'⟩
  obtain ⟨g1, rfl⟩ := G.new_ex _ hn'
  clear hn' g C2
  revert g1
  intro g
  go_wp2_with (with_reducible refine G.any_mark _ ?_; (try generalize Array.size (World.heap (G.w _)) = bk); (try dsimp only [List.set_cons_zero, List.set_cons_succ]); (try clear g); intro g)
  obtain ⟨b0, rfl⟩ : ∃ b0 : Nat, b0 = bk := ⟨_, rfl⟩
  have hu1 := hu.cap; have hu2 := hu.max; have hv1 := hv.cap; have hv2 := hv.max
  rw [bitF_len 1] at hu1
  rw [bitF_len 2] at hv1
  obtain ⟨b', o', e', hcu⟩ := ints_cells hu.ints (by rw [bitF_len 1]; decide)
  cases e'
  obtain ⟨b', o', e', hcv⟩ := ints_cells hv.ints (by rw [bitF_len 2]; decide)
  cases e'
  rw [bitF_len 1] at hcu
  rw [bitF_len 2] at hcv
  have HU := Lib.hid hcu
  have HV := Lib.hid hcv
  have HS := Lib.hid (partC_set 2)
  have HA := Lib.hid (partC_at 2)
  have HE : Hid (partC 2 31 = codeF 2) := Lib.hid (partC_end 2)
  clear hcu hcv hu hv
  go_loopg [13] 31 (fun gk s13 wr => ∃ (k : Nat), k + gk = 31 ∧ s13 = .int .i64 (k : Int) ∧ ∃ g : G w [] [(b0, 3, i64s (partC 2 k))] [Fv, Fu, heapOf w], wr = g.w)
  case atStart => exact ⟨0, by omega, rfl, g, rfl⟩
  case round =>
    clear g
    obtain ⟨kq, rfl⟩ : ∃ kq : Nat, kq = gk := ⟨_, rfl⟩
    obtain ⟨k, hkg, rfl, g, rfl⟩ := hrel
    by_cases hk : k < 31
    · have hki : (k : Int) < 31 := by omega
      have hk0 : (0 : Int) ≤ (k : Int) := by omega
      have hcell := HA.out k hk
      have hset := HS.out k hk
      have eu := HU.out k hk _ _ _ _ g (by simp)
      have ev := HV.out k hk _ _ _ _ g (by simp)
      rw [Nat.zero_add] at eu ev
      have hb01 := cb01 2 k
      have hcc : cc 2 k = 1 - 2 * cb 2 k := rfl
      have hcb : (bitF 2).getD k 0 = cb 2 k := by unfold cb; rw [if_neg (by decide), if_pos rfl]
      rw [hcb] at ev
      rw [hcc] at hset
      generalize cb 2 k = x at *
      have w1 : wrap64 (2 * x) = 2 * x := by unfold wrap64; omega
      have w2 : wrap64 (1 - 2 * x) = 1 - 2 * x := by unfold wrap64; omega
      clear hb01 hcb hcc
      go_wp2_with (with_reducible refine G.any_mark _ ?_; (try generalize Array.size (World.heap (G.w _)) = bk); (try dsimp only [List.set_cons_zero, List.set_cons_succ]); (try clear g); intro g)
      go_roundg (kq - 1)
      case measure => omega
      case rel => exact ⟨k + 1, by omega, by go_num, G.as g (by rw [hset])⟩
    · have hk31 : k = 31 := by omega
      subst hk31
      go_wp2_with (with_reducible refine G.any_mark _ ?_; (try generalize Array.size (World.heap (G.w _)) = bk); (try dsimp only [List.set_cons_zero, List.set_cons_succ]); (try clear g); intro g)
      go_ret2
      exact ⟨b0, _, rfl, by rw [HE.out]; exact si_blk (by rw [codeF_len]; decide) (by decide) (codeF_rng 2), g.give (List.mem_cons_self ..)⟩
set_option maxRecDepth 20000 in
theorem code_3 (p : Nat) (p1 : 3 ≤ p) (p2 : p ≤ 33) (w : World) : Calls Try.prog 21 #[.int .i64 5, .int .i64 (p : Int)] w (RCode p w) := by
  refine calls_b fun g => ?_
  unfold RCode
  have C1 := Lib.hid bits1
  have C2 := Lib.hid bits2
  unfold RBits at C1 C2
  have hmk := fun w => make_ints 31 (by decide) w
  simp only [Int.cast_ofNat_Int] at hmk
  have hp0 : ¬ ((p : Int) < 1) := by omega
  have hp9 : ¬ (33 < (p : Int)) := by omega
  go_enter Try.func21, Try.ntmps21
  go_wp2_with (with_reducible refine G.any_mark _ ?_; (try generalize Array.size (World.heap (G.w _)) = bk); (try dsimp only [List.set_cons_zero, List.set_cons_succ]); (try clear g); intro g)
  refine (length5 _).mono ?_
  rintro e w1 ⟨rfl, hb⟩
  obtain ⟨g1, rfl⟩ := G.call_ex _ hb
  clear hb
  (try clear g)
  revert g1
  intro g
  go_wp2_with (with_reducible refine G.any_mark _ ?_; (try generalize Array.size (World.heap (G.w _)) = bk); (try dsimp only [List.set_cons_zero, List.set_cons_succ]); (try clear g); intro g)
  refine (C1.out _).mono ?_
  rintro e w1 ⟨bu, cu, Fu, rfl, hu, hn'⟩
  obtain ⟨g1, rfl⟩ := G.new_ex _ hn'
  clear hn' g C1
  revert g1
  intro g
  go_wp2_with (with_reducible refine G.any_mark _ ?_; (try generalize Array.size (World.heap (G.w _)) = bk); (try dsimp only [List.set_cons_zero, List.set_cons_succ]); (try clear g); intro g)
  refine (C2.out _).mono ?_
  rintro e w1 ⟨bv, cv, Fv, rfl, hv, hn'⟩
  obtain ⟨g1, rfl⟩ := G.new_ex _ hn'
  clear hn' g C2
  revert g1
  intro g
  go_wp2_with (with_reducible refine G.any_mark _ ?_; (try generalize Array.size (World.heap (G.w _)) = bk); (try dsimp only [List.set_cons_zero, List.set_cons_succ]); (try clear g); intro g)
  obtain ⟨b0, rfl⟩ : ∃ b0 : Nat, b0 = bk := ⟨_, rfl⟩
  have hu1 := hu.cap; have hu2 := hu.max; have hv1 := hv.cap; have hv2 := hv.max
  rw [bitF_len 1] at hu1
  rw [bitF_len 2] at hv1
  obtain ⟨b', o', e', hcu⟩ := ints_cells hu.ints (by rw [bitF_len 1]; decide)
  cases e'
  obtain ⟨b', o', e', hcv⟩ := ints_cells hv.ints (by rw [bitF_len 2]; decide)
  cases e'
  rw [bitF_len 1] at hcu
  rw [bitF_len 2] at hcv
  have HU := Lib.hid hcu
  have HV := Lib.hid hcv
  have HS := Lib.hid (partC_set p)
  have HA := Lib.hid (partC_at p)
  have HE : Hid (partC p 31 = codeF p) := Lib.hid (partC_end p)
  clear hcu hcv hu hv
  go_loopg [13] 31 (fun gk s13 wr => ∃ (k : Nat), k + gk = 31 ∧ s13 = .int .i64 (k : Int) ∧ ∃ g : G w [] [(b0, 3, i64s (partC p k))] [Fv, Fu, heapOf w], wr = g.w)
  case atStart => exact ⟨0, by omega, rfl, g, rfl⟩
  case round =>
    clear g
    obtain ⟨kq, rfl⟩ : ∃ kq : Nat, kq = gk := ⟨_, rfl⟩
    obtain ⟨k, hkg, rfl, g, rfl⟩ := hrel
    by_cases hk : k < 31
    · have hki : (k : Int) < 31 := by omega
      have hk0 : (0 : Int) ≤ (k : Int) := by omega
      have hcell := HA.out k hk
      have hset := HS.out k hk
      have eu := HU.out k hk _ _ _ _ g (by simp)
      have ev := HV.out k hk _ _ _ _ g (by simp)
      rw [Nat.zero_add] at eu ev
      have q2' : ¬ ((p : Int) = 2) := by omega
      have q3 : 2 < (p : Int) := by omega
      have hb01 := cb01 p k
      have hcc : cc p k = 1 - 2 * cb p k := rfl
      obtain ⟨x, hx⟩ : ∃ x, (bitF 1).getD k 0 = x := ⟨_, rfl⟩
      obtain ⟨y, hy⟩ : ∃ y, (bitF 2).getD ((k + p - 3) % 31) 0 = y := ⟨_, rfl⟩
      have hm31 : (k + p - 3) % 31 < 31 := Nat.mod_lt _ (by decide)
      have ev' := HV.out _ hm31 _ _ _ _ g (by simp)
      have hcb : cb p k = bits .xor .i64 x y := by unfold cb; rw [if_neg (by omega), if_neg (by omega), hx, hy]
      rw [Nat.zero_add, hy] at ev'
      rw [hx] at eu
      rw [hcc, hcb] at hset
      rw [hcb] at hb01
      obtain ⟨z, hz⟩ : ∃ z, bits .xor .i64 x y = z := ⟨_, rfl⟩
      rw [hz] at hset hb01
      have b4 : (-1000 ≤ 2 * z ∧ 2 * z ≤ 1000) ∧ -1000 ≤ 1 - 2 * z ∧ 1 - 2 * z ≤ 1000 := by clear hm31; omega
      have w1 : wrap64 (2 * z) = 2 * z := wr b4.1.1 b4.1.2
      have w2 : wrap64 (1 - 2 * z) = 1 - 2 * z := wr b4.2.1 b4.2.2
      clear hb01 hcb hcc hx hy b4 hm31
      go_wp2_with (with_reducible refine G.any_mark _ ?_; (try generalize Array.size (World.heap (G.w _)) = bk); (try dsimp only [List.set_cons_zero, List.set_cons_succ]); (try clear g); intro g)
      go_roundg (kq - 1)
      case measure => omega
      case rel => exact ⟨k + 1, by omega, by go_num, G.as g (by rw [hset])⟩
    · have hk31 : k = 31 := by omega
      subst hk31
      go_wp2_with (with_reducible refine G.any_mark _ ?_; (try generalize Array.size (World.heap (G.w _)) = bk); (try dsimp only [List.set_cons_zero, List.set_cons_succ]); (try clear g); intro g)
      go_ret2
      exact ⟨b0, _, rfl, by rw [HE.out]; exact si_blk (by rw [codeF_len]; decide) (by decide) (codeF_rng p), g.give (List.mem_cons_self ..)⟩
theorem code_ex (p : Nat) (p1 : 1 ≤ p) (p2 : p ≤ 33) (w : World) : Calls Try.prog 21 #[.int .i64 5, .int .i64 (p : Int)] w (RCode p w) := by
  rcases p with _ | _ | _ | p
  · omega
  · exact code_1 w
  · exact code_2 w
  · exact code_3 _ (by omega) p2 w
end Go.Proofs.Ytcaaecmbbbdopaa
namespace Go.Proofs.Ytcaaecmbbbdopaa
open Go.RowKit GW
theorem known5 (ov : Nat) (o1 : 1 ≤ ov) (o2 : ov ≤ 3) (w : World) : Calls Try.prog 20 #[.int .i64 5, .int .i64 (ov : Int)] w fun e w' => e = .returned (.int .i64 0) ∧ Below w.heap.size w w' := by
  refine calls_b fun g => ?_
  have h1 : ¬ ((ov : Int) < 1) := by omega
  have h2 : ¬ (8 < (ov : Int)) := by omega
  go_enter Try.func20, Try.ntmps20
  go_wp2_with (with_reducible refine G.any_mark _ ?_; (try generalize Array.size (World.heap (G.w _)) = bk); (try dsimp only [List.set_cons_zero, List.set_cons_succ]); (try clear g); intro g)
  refine (length5 _).mono ?_
  rintro e w1 ⟨rfl, hb⟩
  obtain ⟨g1, rfl⟩ := G.call_ex _ hb
  clear hb
  (try clear g)
  revert g1
  intro g
  go_wp2_with (with_reducible refine G.any_mark _ ?_; (try generalize Array.size (World.heap (G.w _)) = bk); (try dsimp only [List.set_cons_zero, List.set_cons_succ]); (try clear g); intro g)
  go_ret
  exact ⟨rfl, G.below _⟩
/-- the samples of a code -/
def smp (p ov k : Nat) : List Int := (List.range k).map fun i => cc p (i / ov)
theorem smp_succ (p ov k : Nat) : smp p ov (k + 1) = smp p ov k ++ [cc p (k / ov)] := by unfold smp; rw [List.range_succ, List.map_append]; rfl
theorem smp_len (p ov k : Nat) : (smp p ov k).length = k := by simp [smp]
theorem smp_get (p ov k i : Nat) (h : i < k) : (smp p ov k).getD i 0 = cc p (i / ov) := by
  rw [List.getD_eq_getElem?_getD, smp, List.getElem?_map, List.getElem?_range h]; rfl
theorem smp_rng (p ov k j : Nat) : -9223372036854775808 ≤ (smp p ov k).getD j 0 ∧ (smp p ov k).getD j 0 < 9223372036854775808 := by
  by_cases h : j < k
  · rw [smp_get p ov k j h]; rcases cc1 p (j / ov) with e | e <;> rw [e] <;> decide
  · rw [List.getD_eq_getElem?_getD, List.getElem?_eq_none (by rw [smp_len]; omega)]; decide
def RSmp (p ov : Nat) (w : World) (e : Ending) (w' : World) : Prop := ∃ b c F, e = .returned (.tuple #[.slice (some ⟨b, 0, none⟩) (31 * ov) c, .int .i64 0]) ∧ F.Si (some ⟨b, 0, none⟩) c (smp p ov (31 * ov)) ∧ New w w' F
set_option maxRecDepth 20000 in
theorem samples_ex (p ov : Nat) (p1 : 1 ≤ p) (p2 : p ≤ 33) (o1 : 1 ≤ ov) (o2 : ov ≤ 3) (w : World) : Calls Try.prog 8 #[.int .i64 5, .int .i64 (ov : Int), .int .i64 (p : Int)] w (RSmp p ov w) := by
  refine calls_b fun g => ?_
  unfold RSmp
  obtain ⟨ti0, hi, hz0, hz1, hz2⟩ := info_parts infoInt
  have CK := Lib.hid (known5 ov o1 o2)
  have CC := Lib.hid (code_ex p p1 p2)
  unfold RCode at CC
  have HR1 : Hid (i64s (smp p ov 1) = [.int .i64 (cc p 0)]) := Lib.hid (by show [Value.int .i64 (cc p (0 / ov))] = _; rw [Nat.zero_div])
  have HRS : Hid (∀ k, i64s (smp p ov (k + 1)) = i64s (smp p ov k) ++ [.int .i64 (cc p (k / ov))]) := Lib.hid fun k => by rw [smp_succ, i64s_append]; rfl
  obtain ⟨n, hn⟩ : ∃ n, 31 * ov = n := ⟨_, rfl⟩
  have hn1 : wrap64 (31 * (ov : Int)) = (n : Int) := by unfold wrap64; omega
  have HN := Lib.hid hn
  have hdv : ∀ k, k < n → k / ov < 31 := fun k hk => Nat.div_lt_of_lt_mul (by rw [Nat.mul_comm]; omega)
  have HD := Lib.hid hdv
  have hn93 : n ≤ 93 := by omega
  have hov : ¬ ((ov : Int) = 0) := by omega
  rw [hn]
  clear hn hdv
  go_enter Try.func8, Try.ntmps8
  go_wp2_with (with_reducible refine G.any_mark _ ?_; (try generalize Array.size (World.heap (G.w _)) = bk); (try dsimp only [List.set_cons_zero, List.set_cons_succ]); (try clear g); intro g)
  refine (CK.out _).mono ?_
  rintro e w1 ⟨rfl, hb⟩
  obtain ⟨g1, rfl⟩ := G.call_ex _ hb
  clear hb
  (try clear g)
  revert g1
  intro g
  go_wp2_with (with_reducible refine G.any_mark _ ?_; (try generalize Array.size (World.heap (G.w _)) = bk); (try dsimp only [List.set_cons_zero, List.set_cons_succ]); (try clear g); intro g)
  refine (CC.out _).mono ?_
  rintro e w1 ⟨bc, Fc, rfl, hc, hn'⟩
  obtain ⟨g1, rfl⟩ := G.new_ex _ hn'
  clear hn' g CC CK
  revert g1
  intro g
  obtain ⟨b', o', e', hcc⟩ := ints_cells hc.ints (by rw [codeF_len]; decide)
  cases e'
  rw [codeF_len] at hcc
  have HC : Hid (∀ j, j < 31 → ∀ (w0 : World) (X : List Nat) (M : List Blk) (I : List Frag) (g : G w0 X M I), Fc ∈ I → g.w.cell? ⟨bc, j, none⟩ = some (.int .i64 (cc p j))) := Lib.hid fun j hj w0 X M I g hF => by
    have := hcc j hj w0 X M I g hF
    rw [Nat.zero_add, codeF_get _ _ hj] at this
    exact this
  clear hcc hc
  go_wp2_with (with_reducible refine G.any_mark _ ?_; (try generalize Array.size (World.heap (G.w _)) = bk); (try dsimp only [List.set_cons_zero, List.set_cons_succ]); (try clear g); intro g)

  go_loopg [11, 12] n (fun gk s6 s7 wr => ∃ (k : Nat), k + gk = n ∧ s7 = .int .i64 (k : Int) ∧ ((k = 0 ∧ s6 = .slice none 0 0 ∧ ∃ g : G w [] [] [Fc, heapOf w], wr = g.w) ∨ (0 < k ∧ ∃ b cap cs, s6 = .slice (some ⟨b, 0, none⟩) k cap ∧ w.heap.size ≤ b ∧ Row 3 1 k (i64s (smp p ov k)) cap cs ∧ ∃ g : G w [] [(b, 3, cs)] [Fc, heapOf w], wr = g.w)))
  case atStart => exact ⟨0, by omega, rfl, .inl ⟨rfl, rfl, g, rfl⟩⟩
  case round =>
    clear g
    obtain ⟨kq, rfl⟩ : ∃ kq : Nat, kq = gk := ⟨_, rfl⟩
    obtain ⟨k, hkg, rfl, hcase⟩ := hrel
    by_cases hk : k < n
    · have hki : (k : Int) < (n : Int) := by omega
      have hk0 : (0 : Int) ≤ (k : Int) := by omega
      have hq31 := HD.out k hk
      have hki2 : (k : Int) < 31 * (ov : Int) := by have := HN.out; omega
      rcases hcase with ⟨rfl, rfl, g, rfl⟩ | ⟨hk1, b, cap, cs, rfl, hb, hrow, g, rfl⟩
      · have ec := HC.out 0 (by decide) _ _ _ _ g (by simp)
        have hR := HR1.out
        generalize cc p 0 = x at *
        have H1 : ∀ u ∈ [Value.int .i64 x], u.oneCell' = true := by intro u hu; rw [List.mem_singleton.1 hu]; rfl
        have HRl := Lib.hid hR
        clear hR
        go_wp2_with (first | (with_reducible refine G.any_mark _ ?_; (try generalize Array.size (World.heap (G.w _)) = bk); (try dsimp only [List.set_cons_zero, List.set_cons_succ]); (try clear g); intro g) | (at_builtin; refine wpList_append_lit0 rfl _ _ 22 rfl 3 ti0 _ 1 8 Try.underlying22 hi hz0 hz1 hz2 rfl (by decide) g rfl 1 rfl rfl H1 (by decide) (by decide) (by decide) ?_; clear g; intro b cap cs g hb hrow))

        go_roundg (kq - 1)
        case measure => omega
        case rel => exact ⟨1, by omega, by go_num, .inr ⟨by omega, b, cap, cs, rfl, hb, by rw [HRl.out]; exact hrow, g, rfl⟩⟩
      · have ec := HC.out (k / ov) hq31 _ _ _ _ g (by simp)
        have hq : wrap64 ((k : Int) / (ov : Int)) = ((k / ov : Nat) : Int) := by rw [← Int.natCast_ediv]; exact wr (by have := Int.natCast_nonneg (k / ov); omega) (by omega)
        have hR := Lib.hid (HRS.out k)
        have H2 : k + 1 ≤ maxLen := by show k + 1 ≤ 9223372036854775807; omega
        have H3 : (k + 1) * 8 ≤ 140737488355328 := by omega
        generalize cc p (k / ov) = x at ec hR
        generalize k / ov = q at ec hq hq31
        have hqi : (q : Int) < 31 := by omega
        have H1 : ∀ u ∈ [Value.int .i64 x], u.oneCell' = true := by intro u hu; rw [List.mem_singleton.1 hu]; rfl
        go_wp2_with (first | (with_reducible refine G.any_mark _ ?_; (try generalize Array.size (World.heap (G.w _)) = bk); (try dsimp only [List.set_cons_zero, List.set_cons_succ]); (try clear g); intro g) | (at_builtin; refine wpList_append_lit rfl _ _ 22 rfl 3 ti0 _ 1 8 Try.underlying22 hi hz0 hz1 hz2 rfl (by decide) g hrow hb rfl 1 rfl rfl H1 (by decide) H2 H3 ?_; clear hb hrow g; intro b cap cs g hb hrow))
        go_roundg (kq - 1)
        case measure => omega
        case rel => exact ⟨k + 1, by omega, by go_num, .inr ⟨by omega, b, cap, cs, rfl, hb, by rw [hR.out]; exact hrow, g, rfl⟩⟩
    · have hkn : k = n := by omega
      subst hkn
      rcases hcase with ⟨rfl, rfl, g, rfl⟩ | ⟨hk1, b, cap, cs, rfl, hb, hrow, g, rfl⟩
      · have := HN.out; omega
      · have hend : ¬ ((k : Int) < 31 * (ov : Int)) := by have := HN.out; omega
        go_wp2_with (with_reducible refine G.any_mark _ ?_; (try generalize Array.size (World.heap (G.w _)) = bk); (try dsimp only [List.set_cons_zero, List.set_cons_succ]); (try clear g); intro g)
        go_ret2
        exact ⟨b, cap, rfl, _, si_row hrow (smp_len _ _ _) (by omega) (smp_rng p ov k), g.give (List.mem_cons_self ..)⟩
end Go.Proofs.Ytcaaecmbbbdopaa
namespace Go.Proofs.Ytcaaecmbbbdopaa
open Go.RowKit GW
theorem tdiv_floor (a b : Int) (hb : 0 < b) : (a.tmod b < 0 → a.tdiv b - 1 = a / b) ∧ (¬ a.tmod b < 0 → a.tdiv b = a / b) := by
  have h1 := Int.mul_tdiv_add_tmod a b
  have h2 := Int.mul_ediv_add_emod a b
  have h3 := Int.emod_nonneg a (show b ≠ 0 by omega)
  have h4 := Int.emod_lt_of_pos a hb
  obtain ⟨t1, t2, t3, t4⟩ := tmod_pick a b hb
  constructor
  · intro h
    have e := t1 h
    have : b * (a.tdiv b - 1) = b * (a / b) := by rw [Int.mul_sub]; omega
    exact Int.eq_of_mul_eq_mul_left (by omega) this
  · intro h
    have e := t2 h
    have : b * a.tdiv b = b * (a / b) := by omega
    exact Int.eq_of_mul_eq_mul_left (by omega) this
theorem tdiv_bd {a b : Int} (ha : -1000000 ≤ a) (ha' : a ≤ 1000000) (hb : 0 < b) : -1000001 ≤ a / b ∧ a / b ≤ 1000001 := by
  constructor
  · have := Int.le_ediv_of_mul_le hb (show (-1000001) * b ≤ a by have : (-1000001) * b ≤ (-1000001) * 1 := Int.mul_le_mul_of_nonpos_left (by omega) (by omega); omega)
    exact this
  · by_cases h : 0 ≤ a
    · have := Int.ediv_le_self b h; omega
    · have := Int.ediv_neg_of_neg_of_pos (show a < 0 by omega) hb; omega
theorem wrM {x : Int} (h : -10000000 ≤ x) (h' : x ≤ 10000000) : wrap64 x = x := by unfold wrap64; omega
theorem wrI {x : Int} (h : -10000000 ≤ x) (h' : x ≤ 10000000) : IntKind.i64.wrap x = x := by rw [IntKind.wrap_i64]; omega
theorem floor_any (a b : Int) (ha : -1000000 ≤ a) (ha' : a ≤ 1000000) (hb : 0 < b) (hb' : b ≤ 1000000) (w : World) : Calls Try.prog 50 #[.int .i64 a, .int .i64 b] w fun e w' => e = .returned (.int .i64 (a / b)) ∧ Below w.heap.size w w' := by
  obtain ⟨f1, f2⟩ := tdiv_floor a b hb
  obtain ⟨d1, d2⟩ := tdiv_bd ha ha' hb
  obtain ⟨Q, hQ⟩ : ∃ Q, a / b = Q := ⟨_, rfl⟩
  rw [hQ] at f1 f2 d1 d2 ⊢
  have hb0 : ¬ (b = 0) := by omega
  by_cases h : a.tmod b < 0
  · have e := f1 h
    have e2 : a.tdiv b = Q + 1 := by omega
    have w1 : wrap64 (a.tdiv b) = Q + 1 := by rw [e2]; exact wrM (by omega) (by omega)
    have w2 : wrap64 (Q + 1 - 1) = Q := by rw [show Q + 1 - 1 = Q by omega]; exact wrM (by omega) (by omega)
    have HQ := Lib.hid (wrM (x := Q) (by omega) (by omega))
    clear f1 f2 d1 d2 e e2 hQ ha ha' hb'
    go_enter Try.func50, Try.ntmps50
    go_wp2_with fail
    go_ret
    exact ⟨ret_int0 (by first | exact HQ.out | rfl | omega | (rw [w2]) | (simp; done) | (rw [show Q + 1 - 1 = Q by omega]; exact HQ.out)), Below.refl _ _⟩
  · have e := f2 h
    have w1 : wrap64 (a.tdiv b) = Q := by rw [e]; exact wrM (by omega) (by omega)
    clear f1 f2 d1 d2 e hQ ha ha' hb'
    go_enter Try.func50, Try.ntmps50
    go_wp2_with fail
    go_ret
    exact ⟨ret_int0 (by first | rfl | omega), Below.refl _ _⟩
theorem wr31 (ov : Nat) (o2 : ov ≤ 3) : IntKind.i64.wrap (IntKind.i64.wrap (IntKind.i64.wrap 32 - 1) * (ov : Int)) = 31 * (ov : Int) := by
  rw [show IntKind.i64.wrap (IntKind.i64.wrap 32 - 1) = 31 by decide, IntKind.wrap_i64]; omega
theorem size_any (ov : Nat) (o2 : ov ≤ 3) (pb nz : Int) (v : Value) (w : World) : Calls Try.prog 38 #[planV 5 ov pb 1 1 nz v] w fun e w' => e = .returned (.int .i64 (31 * (ov : Int))) ∧ Below w.heap.size w w' := by
  refine calls_b fun g => ?_
  have e31 := wr31 ov o2
  clear o2
  go_enter Try.func38, Try.ntmps38
  go_wp2_with (with_reducible refine G.any_mark _ ?_; (try generalize Array.size (World.heap (G.w _)) = bk); (try dsimp only [List.set_cons_zero, List.set_cons_succ]); (try clear g); intro g)
  go_region_held3 (G.heldN g [true]) (simp [G.heldN, HeldN, go_sem]) (fail)
  all_goals (first | ((try simp only [G.drew_eq, G.drewN_eq]); (refine G.any_mark _ ?_; (try clear g); intro g)) | skip)
  all_goals go_wp2_with (with_reducible refine G.any_mark _ ?_; (try generalize Array.size (World.heap (G.w _)) = bk); (try dsimp only [List.set_cons_zero, List.set_cons_succ]); (try clear g); intro g)
  all_goals go_ret
  all_goals exact ⟨rfl, G.below _⟩
/-- where a period begins -/
def stF (dl : Int) (ov : Nat) (k : Int) : Int := dl + k * (31 * (ov : Int))
theorem stF_bd {dl : Int} {ov : Nat} (d1 : 0 ≤ dl) (d2 : dl < 93) (o2 : ov ≤ 3) {k : Int} (k1 : -10000 ≤ k) (k2 : k ≤ 10000) : -930000 ≤ k * (31 * (ov : Int)) ∧ k * (31 * (ov : Int)) ≤ 930000 ∧ -930000 ≤ stF dl ov k ∧ stF dl ov k ≤ 930100 := by
  unfold stF
  have h1 : ov = 0 ∨ ov = 1 ∨ ov = 2 ∨ ov = 3 := by omega
  rcases h1 with rfl | rfl | rfl | rfl <;> (simp only [Int.natCast_zero, Int.cast_ofNat_Int]; omega)
theorem start_any (ov : Nat) (o2 : ov ≤ 3) (pb nz fi dl st ph ba k : Int) (v u : Value) (d1 : 0 ≤ dl) (d2 : dl < 93) (k1 : -10000 ≤ k) (k2 : k ≤ 10000) (w : World) :
    Calls Try.prog 40 #[planV 5 ov pb 1 1 nz v, emV fi dl 0 st ph 1 ba u, .int .i64 k] w fun e w' => e = .returned (.int .i64 (stF dl ov k)) ∧ Below w.heap.size w w' := by
  refine calls_b fun g => ?_
  obtain ⟨b1, b2, b3, b4⟩ := stF_bd d1 d2 o2 k1 k2
  have CS := Lib.hid (size_any ov o2 pb nz v)
  have CF := Lib.hid (floor_any 0 1024 (by decide) (by decide) (by decide) (by decide))
  simp only [Int.zero_ediv] at CF
  obtain ⟨K, hK⟩ : ∃ K, k * (31 * (ov : Int)) = K := ⟨_, rfl⟩
  have e1 : IntKind.i64.wrap (k * (31 * (ov : Int))) = K := by rw [← hK]; exact wrI (by omega) (by omega)
  have e0 : stF dl ov k = dl + K := by unfold stF; rw [hK]
  have e2 : IntKind.i64.wrap (dl + K) = stF dl ov k := by rw [e0]; exact wrI (by omega) (by omega)
  have e3 : IntKind.i64.wrap (stF dl ov k) = stF dl ov k := wrI (by omega) (by omega)
  have e4 : IntKind.i64.wrap 0 = 0 := by decide
  generalize stF dl ov k = S at *
  clear b1 b2 b3 b4 e0 hK d1 d2 k1 k2 o2
  go_enter Try.func40, Try.ntmps40
  go_wp2_with (with_reducible refine G.any_mark _ ?_; (try generalize Array.size (World.heap (G.w _)) = bk); (try dsimp only [List.set_cons_zero, List.set_cons_succ]); (try clear g); intro g)
  go_region_held3 (G.heldN g [true, true]) (simp [G.heldN, HeldN, go_sem]) (first
    | (go_at_call 38; (with_reducible refine (CS.out _).mono ?_); rintro e w1 ⟨rfl, hb⟩; obtain ⟨g1, rfl⟩ := G.call_ex _ hb; clear hb; (try clear g); revert g1; intro g)
    | (go_at_call 50; (with_reducible refine (CF.out _).mono ?_); rintro e w1 ⟨rfl, hb⟩; obtain ⟨g1, rfl⟩ := G.call_ex _ hb; clear hb; (try clear g); revert g1; intro g))
  all_goals (first | ((try simp only [G.drew_eq, G.drewN_eq]); (refine G.any_mark _ ?_; (try clear g); intro g)) | skip)
  all_goals go_wp2_with (with_reducible refine G.any_mark _ ?_; (try generalize Array.size (World.heap (G.w _)) = bk); (try dsimp only [List.set_cons_zero, List.set_cons_succ]); (try clear g); intro g)
  all_goals go_ret
  all_goals exact ⟨rfl, G.below _⟩
theorem bit_any (ov : Nat) (pb nz fi dl st ph ba k : Int) (v : Value) (w : World) :
    Calls Try.prog 41 #[planV 5 ov pb 1 1 nz v, emV fi dl 0 st ph 1 ba (.slice none 0 0), .int .i64 k] w fun e w' => e = .returned (.int .i64 0) ∧ Below w.heap.size w w' := by
  refine calls_b fun g => ?_
  go_enter Try.func41, Try.ntmps41
  go_wp2_with (with_reducible refine G.any_mark _ ?_; (try generalize Array.size (World.heap (G.w _)) = bk); (try dsimp only [List.set_cons_zero, List.set_cons_succ]); (try clear g); intro g)
  go_ret
  exact ⟨rfl, G.below _⟩
/-- the period of a sample -/
def plF (dl : Int) (ov : Nat) (n : Int) : Int := (n - dl) / (31 * (ov : Int))
theorem plF_is {dl : Int} {ov : Nat} (d1 : 0 ≤ dl) (d2 : dl < 93) (o1 : 1 ≤ ov) (o2 : ov ≤ 3) {n : Int} (n1 : 0 ≤ n) (n2 : n ≤ 5000) : -100 ≤ plF dl ov n ∧ plF dl ov n ≤ 5000 ∧ stF dl ov (plF dl ov n) ≤ n ∧ n < stF dl ov (plF dl ov n + 1) ∧ n - stF dl ov (plF dl ov n) < 31 * (ov : Int) := by
  unfold plF stF
  have h1 : ov = 1 ∨ ov = 2 ∨ ov = 3 := by omega
  rcases h1 with rfl | rfl | rfl <;> (simp only [Int.cast_ofNat_Int]; omega)
theorem place_any (ov : Nat) (o1 : 1 ≤ ov) (o2 : ov ≤ 3) (pb nz fi dl st ph ba n : Int) (v u : Value) (d1 : 0 ≤ dl) (d2 : dl < 93) (n1 : 0 ≤ n) (n2 : n ≤ 5000) (w : World) :
    Calls Try.prog 39 #[planV 5 ov pb 1 1 nz v, emV fi dl 0 st ph 1 ba u, .int .i64 n] w fun e w' => e = .returned (.int .i64 (plF dl ov n)) ∧ Below w.heap.size w w' := by
  refine calls_b fun g => ?_
  obtain ⟨b1, b2, b3, b4, _⟩ := plF_is d1 d2 o1 o2 n1 n2
  have CS := Lib.hid (size_any ov o2 pb nz v)
  have CF := Lib.hid (fun w => floor_any (n - dl) (31 * (ov : Int)) (by omega) (by omega) (by omega) (by omega) w)
  have HP : (n - dl) / (31 * (ov : Int)) = plF dl ov n := rfl
  rw [HP] at CF
  clear HP
  obtain ⟨P, hP⟩ : ∃ P, plF dl ov n = P := ⟨_, rfl⟩
  rw [hP] at b1 b2 b3 b4 CF ⊢
  have C1 := Lib.hid (fun w => start_any ov o2 pb nz fi dl st ph ba P v u d1 d2 (by omega) (by omega) w)
  have C2 := Lib.hid (fun w => start_any ov o2 pb nz fi dl st ph ba (P + 1) v u d1 d2 (by omega) (by omega) w)
  generalize stF dl ov P = S1 at *
  generalize stF dl ov (P + 1) = S2 at *
  have e1 : IntKind.i64.wrap (n - dl) = n - dl := wrI (by omega) (by omega)
  have e2 : wrap64 (P + 1) = P + 1 := wrM (by omega) (by omega)
  have t1 : ¬ (n < S1) := by omega
  have t2 : ¬ (S2 ≤ n) := by omega
  clear b1 b2 b3 b4 d1 d2 n1 n2 hP
  go_enter Try.func39, Try.ntmps39
  go_wp2_with (with_reducible refine G.any_mark _ ?_; (try generalize Array.size (World.heap (G.w _)) = bk); (try dsimp only [List.set_cons_zero, List.set_cons_succ]); (try clear g); intro g)
  rename_i bq K0 Q0
  go_cut [7] (fun r7 wx => ∃ (g : G w [] [(bk, 30, [.int .i64 fi, .int .i64 dl, .int .i64 0, .int .u32 st, .int .u32 ph, .int .i64 1, .int .i64 ba, u]), (bq, 26, [.int .i64 5, .int .i64 ov, .int .i64 pb, .int .i64 2, .int .i64 1, .int .i64 1, .int .i64 nz, v])] [heapOf w]), r7 = .int .i64 P ∧ wx = g.w)
  case first =>
    go_region_held3 (G.heldN g [true, true]) (simp [G.heldN, HeldN, go_sem]) (first
      | (go_at_call 38; (with_reducible refine (CS.out _).mono ?_); rintro e w1 ⟨rfl, hb⟩; obtain ⟨g1, rfl⟩ := G.call_ex _ hb; clear hb; (try clear g); revert g1; intro g)
      | (go_at_call 50; (with_reducible refine (CF.out _).mono ?_); rintro e w1 ⟨rfl, hb⟩; obtain ⟨g1, rfl⟩ := G.call_ex _ hb; clear hb; (try clear g); revert g1; intro g))
    all_goals (first | ((try simp only [G.drew_eq, G.drewN_eq]); (refine G.any_mark _ ?_; (try clear g); intro g)) | skip)
    all_goals go_wp2_with fail
    all_goals go_meet
    all_goals exact ⟨g, rfl, rfl⟩
  case rest =>
  obtain ⟨g, rfl, rfl⟩ := hcut
  go_wp2_with (with_reducible refine G.any_mark _ ?_; (try generalize Array.size (World.heap (G.w _)) = bk); (try dsimp only [List.set_cons_zero, List.set_cons_succ]); (try clear g); intro g)
  go_loopg [7] 0 (fun gk s7 wr => s7 = .int .i64 P ∧ ∃ g : G w [] [(bk, 30, [.int .i64 fi, .int .i64 dl, .int .i64 0, .int .u32 st, .int .u32 ph, .int .i64 1, .int .i64 ba, u]), (bq, 26, [.int .i64 5, .int .i64 ov, .int .i64 pb, .int .i64 2, .int .i64 1, .int .i64 1, .int .i64 nz, v])] [heapOf w], wr = g.w)
  case atStart => exact ⟨rfl, g, rfl⟩
  case round =>
    clear g
    obtain ⟨kq, rfl⟩ : ∃ kq : Nat, kq = gk := ⟨_, rfl⟩
    obtain ⟨rfl, g, rfl⟩ := hrel
    go_wp2_with (with_reducible refine G.any_mark _ ?_; (try generalize Array.size (World.heap (G.w _)) = bk); (try dsimp only [List.set_cons_zero, List.set_cons_succ]); (try clear g); intro g)
    refine (C1.out _).mono ?_
    rintro e w1 ⟨rfl, hb⟩
    obtain ⟨g1, rfl⟩ := G.call_ex _ hb
    clear hb
    (try clear g)
    revert g1
    intro g
    go_wp2_with (with_reducible refine G.any_mark _ ?_; (try generalize Array.size (World.heap (G.w _)) = bk); (try dsimp only [List.set_cons_zero, List.set_cons_succ]); (try clear g); intro g)
    go_loopg [7] 0 (fun gk s7 wr => s7 = .int .i64 P ∧ ∃ g : G w [] [(bk, 30, [.int .i64 fi, .int .i64 dl, .int .i64 0, .int .u32 st, .int .u32 ph, .int .i64 1, .int .i64 ba, u]), (bq, 26, [.int .i64 5, .int .i64 ov, .int .i64 pb, .int .i64 2, .int .i64 1, .int .i64 1, .int .i64 nz, v])] [heapOf w], wr = g.w)
    case atStart => exact ⟨rfl, g, rfl⟩
    case round =>
      clear g
      obtain ⟨kq2, rfl⟩ : ∃ kq : Nat, kq = gk := ⟨_, rfl⟩
      obtain ⟨rfl, g, rfl⟩ := hrel
      go_wp2_with (with_reducible refine G.any_mark _ ?_; (try generalize Array.size (World.heap (G.w _)) = bk); (try dsimp only [List.set_cons_zero, List.set_cons_succ]); (try clear g); intro g)
      refine (C2.out _).mono ?_
      rintro e w1 ⟨rfl, hb⟩
      obtain ⟨g1, rfl⟩ := G.call_ex _ hb
      clear hb
      (try clear g)
      revert g1
      intro g
      go_wp2_with (with_reducible refine G.any_mark _ ?_; (try generalize Array.size (World.heap (G.w _)) = bk); (try dsimp only [List.set_cons_zero, List.set_cons_succ]); (try clear g); intro g)
      go_ret
      exact ⟨rfl, G.below _⟩
end Go.Proofs.Ytcaaecmbbbdopaa
