/- Plain facts and contracts of functions of the program, out of walks. Their conditions stand ahead of each. -/
import Derived.Test.YtodigegjngnknaaDe1
import Derived.Test.YtodigegjngnknaaDe3
import Derived.Test.YtodigegjngnknaaDe10
import Derived.Test.YtodigegjngnknaaDe24
import Derived.Test.YtodigegjngnknaaDe27
import Derived.Test.YtodigegjngnknaaDe30
import Derived.Test.YtodigegjngnknaaDe32
import Derived.Test.YtodigegjngnknaaDe33
import Derived.Below
import Derived.BigQuiet
import Derived.Deep.Draws
import Derived.Deep.LoopGhost
import Derived.Deep.QuietTactic
import Derived.Deep.RegionHeld3
import Derived.Defers
import Derived.Laws.BytesString
import Derived.Laws.Cells
import Derived.Laws.CopyOwn
import Derived.Laws.IdiomStrings
import Derived.Laws.NewBlocks
import Derived.Laws.OwnMore
import Derived.Laws.Pointers
import Derived.Laws.Rows
import Derived.Lib.BitFns
import Derived.Lib.Hide
import Derived.Lib.ItoaNum
import Derived.LoopIn
import Derived.LoopNIn
import Derived.Maps.AppendAt
import Derived.OrdersIn
import Derived.OwnWalk
import Derived.OwnWalkIn
import Derived.RangeFuncBound
import Derived.RangeFuncBox
import Derived.RangeFuncCalls
import Derived.RangeFuncLeaves
import Derived.RangeFuncNested
import Derived.RowKit3
import Derived.Shelf.Abstract
import Derived.Shelf.RegionOpen
import Derived.StillTactics
import Derived.StillTailTactics
import Derived.TacticsInMore
import Derived.Test.YtodigegjngnknaaProg
import Derived.WalkKit
import Derived.WalkLawsBesides
import Derived.WalkMore
import Derived.WalkSpells
set_option linter.unusedVariables false
set_option linter.unusedSimpArgs false
set_option exponentiation.threshold 10000
namespace Go.Proofs.Ytodigegjngnknaa
open Go.RowKit GW NL
/-- the bytes of a text -/
def bl (s : ByteArray) : List Nat := s.data.toList.map UInt8.toNat
theorem bl_len (s : ByteArray) : (bl s).length = s.size := by simp [bl]
theorem bl_lt (s : ByteArray) : ∀ x ∈ bl s, x < 256 := by
  intro x hx
  obtain ⟨u, _, rfl⟩ := List.mem_map.1 hx
  exact u.toNat_lt
/-- In part F, block b reads as the bytes l. -/
def ByL (F : Frag) (b : Nat) (l : List Nat) : Prop := ∃ cs T f, F b = some (.cells cs T f) ∧ ∀ j, j < l.length → cs[j]? = some (.int .u8 ((l.getD j 0 : Nat) : Int))
theorem ByL.cell {F : Frag} {b : Nat} {l : List Nat} (h : ByL F b l) {w0 : World} {X : List Nat} {M : List Blk} {I : List Frag} (g : G w0 X M I) (hF : F ∈ I) {j : Nat} (hj : j < l.length) : g.w.cell? ⟨b, j, none⟩ = some (.int .u8 ((l.getD j 0 : Nat) : Int)) := by
  obtain ⟨cs, T, f, hb, hc⟩ := h
  have := g.sub F hF b _ hb
  simp [World.cell?, this, hc j hj]
theorem bytesRow_get (s : ByteArray) (c : Nat) (j : Nat) (hj : j < (bl s).length) : (bytesRow s c)[j]? = some (.int .u8 (((bl s).getD j 0 : Nat) : Int)) := by
  have hj' : j < s.data.toList.length := by simpa [bl] using hj
  have hj2 : j < s.data.size := by simpa using hj'
  unfold bytesRow
  rw [Array.getElem?_append_left (by simpa using hj2), Array.getElem?_map, Array.getElem?_eq_getElem hj2]
  unfold bl
  rw [List.getD_eq_getElem?_getD, List.getElem?_map, List.getElem?_eq_getElem hj']
  rfl
/-- no digit -/
def NoDig (x : Nat) : Prop := x < 48 ∨ 57 < x
instance (x : Nat) : Decidable (NoDig x) := by unfold NoDig; infer_instance
end Go.Proofs.Ytodigegjngnknaa
namespace Go.Proofs.Ytodigegjngnknaa
open Go.RowKit GW NL
/-- a number and a fault -/
def RNF (v : Nat) (er pl : Int) (w : World) (e : Ending) (w' : World) : Prop := ∃ A c F, e = .returned (.tuple #[.slice A (limbs v).length c, .agg #[.int .i64 er, .int .i64 pl]]) ∧ F.Sl A c (limbs v) ∧ New w w' F
theorem bl_first (s : ByteArray) (h : 0 < s.size) : (s[0]'h).toNat = (bl s).getD 0 0 := by
  have h' : 0 < s.data.toList.length := by simpa using h
  unfold bl
  rw [List.getD_eq_getElem?_getD, List.getElem?_map, List.getElem?_eq_getElem h']
  simp
  rfl
theorem len_digits {v k : Nat} (h : v < 10 ^ k) (hk : k ≤ 2500) : (limbs v).length ≤ 300 :=
  (limbs_len v 300).2 (Nat.lt_of_lt_of_le h (Nat.le_trans (Nat.pow_le_pow_right (by decide) hk) (Nat.le_of_ble_eq_true rfl)))
end Go.Proofs.Ytodigegjngnknaa
namespace Go.Proofs.Ytodigegjngnknaa
open Go.RowKit GW NL
theorem rnf_err {w0 : World} {M : List Blk} {I : List Frag} (g : G w0 [] M I) (x y : Int) : RNF 0 x y w0 (.returned (.tuple #[.slice none 0 0, .agg #[.int .i64 x, .int .i64 y]])) g.w :=
  ⟨none, 0, (fun _ => none), by rw [limbs_zero]; rfl, by rw [limbs_zero]; exact Frag.Sl.nil _ _, g.none⟩
end Go.Proofs.Ytodigegjngnknaa
namespace Go.Proofs.Ytodigegjngnknaa
open Go.RowKit GW NL
theorem bl_at (s : ByteArray) (k : Nat) (h : k < s.size) : (s[k]'h).toNat = (bl s).getD k 0 := by
  have h' : k < s.data.toList.length := by simpa using h
  unfold bl
  rw [List.getD_eq_getElem?_getD, List.getElem?_map, List.getElem?_eq_getElem h']
  simp
  rfl
theorem rOf_neg (a : Int) (h0 : a < 0) (h1 : -9223372036854775808 ≤ a) (w : World) : Calls Try.prog 57 #[.int .i64 a] w (RNE (0, 2) w) := by
  refine calls_b fun g => ?_
  go_enter Try.func57, Try.ntmps57
  go_wp2_with (with_reducible refine G.any_mark _ ?_; (try generalize Array.size (World.heap (G.w _)) = bk); (try dsimp only [List.set_cons_zero, List.set_cons_succ]); (try clear g); intro g)
  go_ret2
  exact rne_err g 2
theorem rOf_pos (n : Nat) (h1 : n < 9223372036854775808) (w : World) : Calls Try.prog 57 #[.int .i64 n] w (RNE (n, 0) w) := by
  refine calls_b fun g => ?_
  obtain ⟨hv, hk⟩ := two_limbs n h1
  have HV := Lib.hid hv
  have e1 : (((n % 4294967296 : Nat)) : Int) = (n : Int) % 4294967296 := by omega
  have e2 : (((n / 4294967296 : Nat)) : Int) = (n : Int) / 4294967296 := by omega
  have E1 := Lib.hid e1
  have E2 := Lib.hid e2
  clear hv e1 e2
  go_enter Try.func57, Try.ntmps57
  go_wp2_with (with_reducible refine G.any_mark _ ?_; (try generalize Array.size (World.heap (G.w _)) = bk); (try dsimp only [List.set_cons_zero, List.set_cons_succ]); (try clear g); intro g)
  obtain ⟨g2, hg2⟩ := g.as (M' := [(bk, 82, u32s [n % 4294967296, n / 4294967296])]) (by simp only [u32s, List.map_cons, List.map_nil, E1.out, E2.out])
  rw [hg2]
  clear hg2 g
  revert g2
  intro g
  have hsl : SlW g.w (some ⟨bk, 0, none⟩) 2 [n % 4294967296, n / 4294967296] := (sl_blk (by simp) (by decide) hk).at (blkF_sub g.blk0)
  refine (rtrim_any _ _ [n % 4294967296, n / 4294967296] _ hsl).mono ?_
  rintro e w1 ⟨rfl, hb⟩
  obtain ⟨g1, rfl⟩ := G.call_ex _ hb
  clear hb hsl g
  revert g1
  intro g
  rw [HV.out]
  have hfin : (blkF bk (.cells (u32s [n % 4294967296, n / 4294967296]).toArray 82 (0, 0))).Sl (some ⟨bk, 0, none⟩) 2 (limbs n) := by
    have := sl_trim (sl_blk (b := bk) (T := 82) (fr := (0, 0)) (c := 2) (by simp) (by decide) hk)
    rwa [HV.out] at this
  go_wp2_with (with_reducible refine G.any_mark _ ?_; (try generalize Array.size (World.heap (G.w _)) = bk); (try dsimp only [List.set_cons_zero, List.set_cons_succ]); (try clear g); intro g)
  go_ret2
  exact ⟨_, 2, _, rfl, hfin, g.give (List.mem_cons_self ..)⟩
end Go.Proofs.Ytodigegjngnknaa
namespace Go.Proofs.Ytodigegjngnknaa
open Go.RowKit GW NL
theorem lim_lt {n k m : Nat} (h : n < 2 ^ (32 * k)) (hk : k ≤ m) : (limbs n).length ≤ m := by
  refine Nat.le_trans ((limbs_len n k).2 ?_) hk
  have : (4294967296 : Nat) ^ k = 2 ^ (32 * k) := by rw [show (4294967296 : Nat) = 2 ^ 32 by decide, ← Nat.pow_mul]
  rw [this]; exact h
set_option maxRecDepth 20000 in
theorem rsq_any (x : Int) (n : Nat) (hn : x.natAbs = n) (hb : n < 2 ^ 62) (w : World) :
    Calls Try.prog 59 #[.int .i64 x] w (RNat (n * n) w) := by
  refine calls_b fun g => ?_
  have C1 := Lib.hid (fun w => from_any x (by omega) (by omega) w)
  rw [hn] at C1
  unfold RFrom at C1
  have l1 : (limbs n).length ≤ 1000000000 := lim_lt (k := 2) (Nat.lt_of_lt_of_le hb (Nat.pow_le_pow_right (by decide) (by decide))) (by decide)
  have C2 := Lib.hid (fun A1 A2 c1 c2 w h1 h2 => rTimes_any A1 A2 c1 c2 n n w h1 h2 l1 l1)
  unfold RNat at C2
  unfold RNat
  generalize hl1 : (limbs n).length = ln at *
  generalize hl2 : (limbs (n * n)).length = lnn at *
  clear hl1 hl2 hn hb l1
  go_enter Try.func59, Try.ntmps59
  go_wp2_with (with_reducible refine G.any_mark _ ?_; (try generalize Array.size (World.heap (G.w _)) = bk); (try dsimp only [List.set_cons_zero, List.set_cons_succ]); (try clear g); intro g)
  refine (C1.out _).mono ?_
  rintro e w1 ⟨Aa, ca, Fa, rfl, hsa, hn⟩
  (try dsimp only at hsa)
  have hnna := fun k o hk => Nat.le_trans g.chg.size (hn.new k o hk)
  obtain ⟨g1, rfl⟩ := G.new_ex _ hn
  clear hn
  (try clear g)
  revert g1
  intro g
  go_wp2_with (with_reducible refine G.any_mark _ ?_; (try generalize Array.size (World.heap (G.w _)) = bk); (try dsimp only [List.set_cons_zero, List.set_cons_succ]); (try clear g); intro g)
  refine (C2.out _ _ _ _ _ (G.sl g (by simp) hsa) (G.sl g (by simp) hsa)).mono ?_
  rintro e w1 ⟨Ab, cb, Fb, rfl, hsb, hn⟩
  (try dsimp only at hsb)
  have hnnb := fun k o hk => Nat.le_trans g.chg.size (hn.new k o hk)
  obtain ⟨g1, rfl⟩ := G.new_ex _ hn
  clear hn
  (try clear g)
  revert g1
  intro g
  go_wp2_with (with_reducible refine G.any_mark _ ?_; (try generalize Array.size (World.heap (G.w _)) = bk); (try dsimp only [List.set_cons_zero, List.set_cons_succ]); (try clear g); intro g)
  go_ret
  exact ⟨_, _, _, rfl, hsb, G.pass _ (by simp) hnnb⟩
/-- what a part of a direction is: the greatest t, with the sign -/
def PartOf (D L : Nat) (neg : Bool) (v : Int) : Prop := ∃ t : Int, v = (if neg then -t else t) ∧ 0 ≤ t ∧ t < 2147483648 ∧ (t = 0 ∨ Yes D L t) ∧ ¬ Yes D L (t + 1)
theorem two_pow_half (e : Nat) : (2 : Int) ^ (e + 1) / 2 = 2 ^ e := by rw [Int.pow_succ]; omega
theorem two_pow_pos (e : Nat) : 0 < (2 : Int) ^ e := Int.pow_pos (by decide)
set_option maxRecDepth 20000 in
set_option maxHeartbeats 2000000 in
theorem rpart_any (a : Int) (n : Nat) (A : Option Addr) (c D : Nat) (hn : a.natAbs = n) (hb : n < 2 ^ 62) (hD : D < 2 ^ 200) (w : World) (h : SlW w A c (limbs D)) (hno : ¬ Yes D (n * n * 4611686018427387904) 2147483648) :
    Calls Try.prog 64 #[.int .i64 a, .slice A (limbs D).length c] w fun e w' => (∃ v : Int, e = .returned (.int .i64 v) ∧ PartOf D (n * n * 4611686018427387904) (decide (a < 0)) v) ∧ Below w.heap.size w w' := by
  refine calls_b fun g => ?_
  have C1 := Lib.hid (fun w => rOf_pos 4611686018427387904 (by decide) w)
  have C2 := Lib.hid (fun w => rsq_any a n hn hb w)
  have n2 : n * n < 2 ^ 124 := sq_lt2 hb hb
  have n3 : n * n * 4611686018427387904 < 2 ^ 192 := Nat.lt_of_lt_of_le (sq_lt2 n2 (show 4611686018427387904 < 2 ^ 63 by decide)) (Nat.pow_le_pow_right (by decide) (by decide))
  have l1 : (limbs (n * n)).length ≤ 1000 := lim_lt (k := 4) (Nat.lt_of_lt_of_le n2 (Nat.pow_le_pow_right (by decide) (by decide))) (by decide)
  have l2 : (limbs 4611686018427387904).length ≤ 1000 := lim_lt (k := 2) (by decide) (by decide)
  have l3 : (limbs D).length ≤ 1000 := lim_lt (k := 7) (Nat.lt_of_lt_of_le hD (Nat.pow_le_pow_right (by decide) (by decide))) (by decide)
  have C3 := Lib.hid (fun A1 A2 c1 c2 w h1 h2 => rTimes_any A1 A2 c1 c2 (n * n) 4611686018427387904 w h1 h2 (by omega) (by omega))
  obtain ⟨L, hL⟩ : ∃ L, n * n * 4611686018427387904 = L := ⟨_, rfl⟩
  rw [hL] at C3 hno n3 ⊢
  have CS : Hid (∀ (t : Int) (m : Nat), (2 * t - 1).natAbs = m → m < 2 ^ 32 → ∀ w, Calls Try.prog 59 #[.int .i64 (2 * t - 1)] w (RNat (m * m) w)) := Lib.hid (fun t m hm hb w => rsq_any (2 * t - 1) m hm (by omega) w)
  have CT : Hid (∀ (m : Nat), m < 2 ^ 32 → ∀ A1 c1 w, SlW w A1 c1 (limbs (m * m)) → SlW w A c (limbs D) → Calls Try.prog 92 #[.slice A1 (limbs (m * m)).length c1, .slice A (limbs D).length c] w (RNat (m * m * D) w)) :=
    Lib.hid (fun m hm A1 c1 w h1 h2 => rTimes_any A1 A c1 c (m * m) D w h1 h2 (by have : (limbs (m * m)).length ≤ 1000 := lim_lt (k := 2) (sq_lt2 hm hm) (by decide)
                                                                                  omega) (by omega))
  have CO : Hid (∀ (m : Nat), m < 2 ^ 32 → ∀ A1 c1 A2 c2 w, SlW w A1 c1 (limbs (m * m * D)) → SlW w A2 c2 (limbs L) → Calls Try.prog 95 #[.slice A1 (limbs (m * m * D)).length c1, .slice A2 (limbs L).length c2] w fun e w' => e = .returned (.int .i64 (ord (m * m * D) L)) ∧ Below w.heap.size w w') :=
    Lib.hid (fun m hm A1 c1 A2 c2 w h1 h2 => rOrder_any A1 A2 c1 c2 (m * m * D) L w h1 h2 (by have : (limbs (m * m * D)).length ≤ 1000 := lim_lt (k := 9) (Nat.lt_of_lt_of_le (sq_lt2 (sq_lt2 hm hm) hD) (Nat.pow_le_pow_right (by decide) (by decide))) (by decide)
                                                                                              omega))
  unfold RNE at C1
  unfold RNat at C2 C3 CS CT
  dsimp only at C1
  have HN := Lib.hid hno
  have H := Lib.hid h
  clear n2 n3 l1 l2 l3 hL hb hn hno h hD
  generalize hq1 : (limbs (n * n)).length = q1 at *
  generalize hq2 : (limbs 4611686018427387904).length = q2 at *
  generalize hq3 : (limbs L).length = lL at *
  generalize hq4 : (limbs D).length = lD at *
  clear hq1 hq2 hq3 hq4
  go_enter Try.func64, Try.ntmps64
  go_wp2_with (with_reducible refine G.any_mark _ ?_; (try generalize Array.size (World.heap (G.w _)) = bk); (try dsimp only [List.set_cons_zero, List.set_cons_succ]); (try clear g); intro g)
  refine (C1.out _).mono ?_
  rintro e w1 ⟨Aa, ca, Fa, rfl, hsa, hn⟩
  (try dsimp only at hsa)
  have hnna := fun k o hk => Nat.le_trans g.chg.size (hn.new k o hk)
  obtain ⟨g1, rfl⟩ := G.new_ex _ hn
  clear hn
  (try clear g)
  revert g1
  intro g
  go_wp2_with (with_reducible refine G.any_mark _ ?_; (try generalize Array.size (World.heap (G.w _)) = bk); (try dsimp only [List.set_cons_zero, List.set_cons_succ]); (try clear g); intro g)
  refine (C2.out _).mono ?_
  rintro e w1 ⟨Ab, cb, Fb, rfl, hsb, hn⟩
  (try dsimp only at hsb)
  have hnnb := fun k o hk => Nat.le_trans g.chg.size (hn.new k o hk)
  obtain ⟨g1, rfl⟩ := G.new_ex _ hn
  clear hn
  (try clear g)
  revert g1
  intro g
  go_wp2_with (with_reducible refine G.any_mark _ ?_; (try generalize Array.size (World.heap (G.w _)) = bk); (try dsimp only [List.set_cons_zero, List.set_cons_succ]); (try clear g); intro g)
  refine (C3.out _ _ _ _ _ (G.sl g (by simp) hsb) (G.sl g (by simp) hsa)).mono ?_
  rintro e w1 ⟨Al, cl, Fl, rfl, hsl, hn⟩
  (try dsimp only at hsl)
  have hnnl := fun k o hk => Nat.le_trans g.chg.size (hn.new k o hk)
  obtain ⟨g1, rfl⟩ := G.new_ex _ hn
  clear hn
  (try clear g)
  revert g1
  intro g
  go_wp2_with (with_reducible refine G.any_mark _ ?_; (try generalize Array.size (World.heap (G.w _)) = bk); (try dsimp only [List.set_cons_zero, List.set_cons_succ]); (try clear g); intro g)
  obtain ⟨g2, hg2⟩ := G.lessI g (I' := [Fl, heapOf w]) (by simp)
  rw [hg2]
  clear hg2 g
  revert g2
  intro g
  go_loopw [8, 9] (fun x y wr => ∃ (t : Int) (e : Nat), x = .int .i64 t ∧ y = .int .i64 ((2 : Int) ^ e / 2) ∧ 0 ≤ t ∧ t + 2 ^ e ≤ 2147483648 ∧ (t = 0 ∨ Yes D L t) ∧ ¬ Yes D L (t + 2 ^ e) ∧ ∃ g : G w [] [] [Fl, heapOf w], wr = g.w) (fun _ y _ => (intOf y).toNat)
  case atStart => exact ⟨0, 31, rfl, rfl, by omega, by omega, .inl rfl, HN.out, g, rfl⟩
  case round =>
    clear g
    obtain ⟨t, e, rfl, rfl, h0, h1, h2, h3, g, rfl⟩ := hrel
    cases e with
    | zero =>
      rw [show (2 : Int) ^ 0 / 2 = 0 by decide]
      rw [show (2 : Int) ^ 0 = 1 by decide] at h1 h3
      have HH : Hid (0 ≤ t ∧ t < 2147483648 ∧ (t = 0 ∨ Yes D L t) ∧ ¬ Yes D L (t + 1)) := Lib.hid ⟨h0, by omega, h2, h3⟩
      have wt : IntKind.i64.wrap (-t) = -t := by rw [IntKind.wrap_i64]; omega
      clear h0 h1 h2 h3
      by_cases ha : a < 0
      · go_wp2_with (with_reducible refine G.any_mark _ ?_; (try generalize Array.size (World.heap (G.w _)) = bk); (try dsimp only [List.set_cons_zero, List.set_cons_succ]); (try clear g); intro g)
        go_ret
        exact ⟨⟨-t, rfl, t, by rw [decide_eq_true ha]; rfl, HH.out⟩, G.below _⟩
      · have ha2 := Lib.hid ha
        go_wp2_with (with_reducible refine G.any_mark _ ?_; (try generalize Array.size (World.heap (G.w _)) = bk); (try dsimp only [List.set_cons_zero, List.set_cons_succ]); (try clear g); intro g)
        go_ret
        exact ⟨⟨t, rfl, t, by rw [decide_eq_false (show ¬ a < 0 by have := ha2.out; omega)]; rfl, HH.out⟩, G.below _⟩
    | succ e =>
      rw [two_pow_half]
      have hp := two_pow_pos e
      rw [Int.pow_succ] at h1 h3
      obtain ⟨b, hb⟩ : ∃ b, (2 : Int) ^ e = b := ⟨_, rfl⟩
      have HB := Lib.hid hb
      rw [hb] at h1 h3 hp ⊢
      clear hb
      obtain ⟨s, hs⟩ : ∃ s, t + b = s := ⟨_, rfl⟩
      obtain ⟨m, hm⟩ : ∃ m, (2 * s - 1).natAbs = m := ⟨_, rfl⟩
      have hm2 : m < 2 ^ 32 := by omega
      have D1 := Lib.hid (CS.out s m hm hm2)
      have D2 := Lib.hid (CT.out m hm2)
      have D3 := Lib.hid (CO.out m hm2)
      have hyes : (Yes D L s ∧ ord (m * m * D) L ≤ 0) ∨ (¬ Yes D L s ∧ ¬ ord (m * m * D) L ≤ 0) := by
        unfold Yes ord
        rw [hm]
        rcases Nat.lt_trichotomy (m * m * D) L with h | h | h
        · left; exact ⟨by omega, by rw [if_pos h]; decide⟩
        · left; exact ⟨by omega, by rw [if_neg (by omega), if_neg (by omega)]; decide⟩
        · right; exact ⟨by omega, by rw [if_neg (by omega), if_pos h]; decide⟩
      have w1 : IntKind.i64.wrap (t + b) = s := by rw [IntKind.wrap_i64]; omega
      obtain ⟨u2, hu2⟩ : ∃ u2, 2 * s = u2 := ⟨_, rfl⟩
      obtain ⟨u, hu⟩ : ∃ u, u2 - 1 = u := ⟨_, rfl⟩
      have v1 : IntKind.i64.wrap (2 * s) = u2 := by rw [IntKind.wrap_i64]; omega
      have v2 : IntKind.i64.wrap (u2 - 1) = u := by rw [IntKind.wrap_i64]; omega
      have w3 : Int.tdiv b 2 = b / 2 := Int.tdiv_eq_ediv_of_nonneg (by omega)
      have w4 : IntKind.i64.wrap (b / 2) = b / 2 := by rw [IntKind.wrap_i64]; omega
      rw [hu2, hu] at D1
      have HH : Hid (0 ≤ t ∧ t + b * 2 ≤ 2147483648 ∧ 0 < b ∧ t + b = s ∧ (t = 0 ∨ Yes D L t) ∧ ¬ Yes D L (t + b * 2)) := Lib.hid ⟨h0, h1, hp, hs, h2, h3⟩
      obtain ⟨o, ho⟩ : ∃ o, ord (m * m * D) L = o := ⟨_, rfl⟩
      rw [ho] at D3 hyes
      have hspos : 0 < s := by omega
      clear h0 h1 h2 h3 hs hu hu2 hm hm2 ho
      generalize hq5 : (limbs (m * m)).length = l5 at *
      generalize hq6 : (limbs (m * m * D)).length = l6 at *
      clear hq5 hq6
      have hy0 := hyes
      rcases hyes with ⟨hy, ho⟩ | ⟨hy, ho⟩
      · have HY := Lib.hid hy
        clear hy hy0
        go_wp2_with (with_reducible refine G.any_mark _ ?_; (try generalize Array.size (World.heap (G.w _)) = bk); (try dsimp only [List.set_cons_zero, List.set_cons_succ]); (try clear g); intro g)
        refine (D1.out _).mono ?_
        rintro e w1 ⟨Ap, cp, Fp, rfl, hsp, hn⟩
        (try dsimp only at hsp)
        have hnnp := fun k o hk => Nat.le_trans g.chg.size (hn.new k o hk)
        obtain ⟨g1, rfl⟩ := G.new_ex _ hn
        clear hn
        (try clear g)
        revert g1
        intro g
        go_wp2_with (with_reducible refine G.any_mark _ ?_; (try generalize Array.size (World.heap (G.w _)) = bk); (try dsimp only [List.set_cons_zero, List.set_cons_succ]); (try clear g); intro g)
        refine (D2.out _ _ _ (G.sl g (by simp) hsp) (G.sl g (by simp) H.out)).mono ?_
        rintro e w1 ⟨Aq, cq, Fq, rfl, hsq, hn⟩
        (try dsimp only at hsq)
        have hnnq := fun k o hk => Nat.le_trans g.chg.size (hn.new k o hk)
        obtain ⟨g1, rfl⟩ := G.new_ex _ hn
        clear hn
        (try clear g)
        revert g1
        intro g
        go_wp2_with (with_reducible refine G.any_mark _ ?_; (try generalize Array.size (World.heap (G.w _)) = bk); (try dsimp only [List.set_cons_zero, List.set_cons_succ]); (try clear g); intro g)
        refine (D3.out _ _ _ _ _ (G.sl g (by simp) hsq) (G.sl g (by simp) hsl)).mono ?_
        rintro e w1 ⟨rfl, hb⟩
        obtain ⟨g1, rfl⟩ := G.call_ex _ hb
        clear hb
        (try clear g)
        revert g1
        intro g
        go_wp2_with (with_reducible refine G.any_mark _ ?_; (try generalize Array.size (World.heap (G.w _)) = bk); (try dsimp only [List.set_cons_zero, List.set_cons_succ]); (try clear g); intro g)
        obtain ⟨g2, hg2⟩ := G.lessI g (I' := [Fl, heapOf w]) (by simp)
        obtain ⟨q0, q1, q2, q3, q4, q5⟩ := HH.out
        exact ⟨⟨s, e, rfl, by rw [HB.out], by omega, by rw [HB.out]; omega, .inr HY.out, by rw [HB.out, ← q3, show t + b + b = t + b * 2 by omega]; exact q5, g2, hg2⟩, by simp only [intOf]; omega⟩
      · have HY := Lib.hid hy
        clear hy hy0
        go_wp2_with (with_reducible refine G.any_mark _ ?_; (try generalize Array.size (World.heap (G.w _)) = bk); (try dsimp only [List.set_cons_zero, List.set_cons_succ]); (try clear g); intro g)
        refine (D1.out _).mono ?_
        rintro e w1 ⟨Ap, cp, Fp, rfl, hsp, hn⟩
        (try dsimp only at hsp)
        have hnnp := fun k o hk => Nat.le_trans g.chg.size (hn.new k o hk)
        obtain ⟨g1, rfl⟩ := G.new_ex _ hn
        clear hn
        (try clear g)
        revert g1
        intro g
        go_wp2_with (with_reducible refine G.any_mark _ ?_; (try generalize Array.size (World.heap (G.w _)) = bk); (try dsimp only [List.set_cons_zero, List.set_cons_succ]); (try clear g); intro g)
        refine (D2.out _ _ _ (G.sl g (by simp) hsp) (G.sl g (by simp) H.out)).mono ?_
        rintro e w1 ⟨Aq, cq, Fq, rfl, hsq, hn⟩
        (try dsimp only at hsq)
        have hnnq := fun k o hk => Nat.le_trans g.chg.size (hn.new k o hk)
        obtain ⟨g1, rfl⟩ := G.new_ex _ hn
        clear hn
        (try clear g)
        revert g1
        intro g
        go_wp2_with (with_reducible refine G.any_mark _ ?_; (try generalize Array.size (World.heap (G.w _)) = bk); (try dsimp only [List.set_cons_zero, List.set_cons_succ]); (try clear g); intro g)
        refine (D3.out _ _ _ _ _ (G.sl g (by simp) hsq) (G.sl g (by simp) hsl)).mono ?_
        rintro e w1 ⟨rfl, hb⟩
        obtain ⟨g1, rfl⟩ := G.call_ex _ hb
        clear hb
        (try clear g)
        revert g1
        intro g
        go_wp2_with (with_reducible refine G.any_mark _ ?_; (try generalize Array.size (World.heap (G.w _)) = bk); (try dsimp only [List.set_cons_zero, List.set_cons_succ]); (try clear g); intro g)
        obtain ⟨g2, hg2⟩ := G.lessI g (I' := [Fl, heapOf w]) (by simp)
        obtain ⟨q0, q1, q2, q3, q4, q5⟩ := HH.out
        exact ⟨⟨t, e, rfl, by rw [HB.out], by omega, by rw [HB.out]; omega, q4, by rw [HB.out, q3]; exact HY.out, g2, hg2⟩, by simp only [intOf]; omega⟩
end Go.Proofs.Ytodigegjngnknaa
namespace Go.Proofs.Ytodigegjngnknaa
open Go.RowKit GW NL
/-- what Curve says: the square of h by 2(r-h), rounded up -/
def curveN (r h : Int) : Nat := (h.natAbs * h.natAbs + ((2 * (r - h)).natAbs - 1)) / (2 * (r - h)).natAbs
def curveX (r h : Int) : Int × Int := if Way r ∧ Way h ∧ h < r then (if curveN r h < 9223372036854775808 then (((curveN r h : Nat) : Int), 0) else (0, 5)) else (0, 2)
theorem lim_pos {v : Nat} (h : v ≠ 0) : 0 < (limbs v).length := by
  rcases Nat.eq_zero_or_pos (limbs v).length with h1 | h1
  · exact absurd (limbs_nil.1 (List.eq_nil_of_length_eq_zero h1)) h
  · exact h1
theorem outI_c {c : Nat} (hc : c < 2 ^ 8192) : outI (chk (limbs c)) (val (limbs c)) = if c < 9223372036854775808 then ((c : Int), 0) else (0, 5) := by
  unfold outI
  rw [chk_limbs hc, val_limbs, if_neg (by decide)]
  have := nb_le c 63
  rw [show (2 : Nat) ^ 63 = 9223372036854775808 by decide] at this
  by_cases h : c < 9223372036854775808
  · rw [if_pos h, if_neg (by have := this.2 h; omega)]
  · rw [if_neg h, if_pos (by have := fun g => h (this.1 g); omega)]
set_option maxRecDepth 20000 in
theorem dcurve_no (r h : Int) (hn : ¬ (Way r ∧ Way h ∧ h < r)) (w : World) :
    Calls Try.prog 22 #[.int .i64 r, .int .i64 h] w fun e w' => e = .returned (.tuple #[.int .i64 0, .int .i64 2]) ∧ Below w.heap.size w w' := by
  refine calls_b fun g => ?_
  have C1 := Lib.hid (fun w => reach_any r w)
  have C2 := Lib.hid (fun w => reach_any h w)
  by_cases hr : Way r
  · by_cases hh : Way h
    · have hrh : r ≤ h := by
        rcases Int.lt_or_le h r with q | q
        · exact absurd ⟨hr, hh, q⟩ hn
        · exact q
      rw [decide_eq_true hr] at C1
      rw [decide_eq_true hh] at C2
      clear hn hr hh
      go_enter Try.func22, Try.ntmps22
      go_wp2_with (with_reducible refine G.any_mark _ ?_; (try generalize Array.size (World.heap (G.w _)) = bk); (try dsimp only [List.set_cons_zero, List.set_cons_succ]); (try clear g); intro g)
      refine (C1.out _).mono ?_
      rintro e w1 ⟨rfl, hb⟩
      obtain ⟨g1, rfl⟩ := G.call_ex _ hb
      clear hb
      (try clear g)
      revert g1
      intro g
      go_wp2_with (with_reducible refine G.any_mark _ ?_; (try generalize Array.size (World.heap (G.w _)) = bk); (try dsimp only [List.set_cons_zero, List.set_cons_succ]); (try clear g); intro g)
      refine (C2.out _).mono ?_
      rintro e w1 ⟨rfl, hb⟩
      obtain ⟨g1, rfl⟩ := G.call_ex _ hb
      clear hb
      (try clear g)
      revert g1
      intro g
      go_wp2_with (with_reducible refine G.any_mark _ ?_; (try generalize Array.size (World.heap (G.w _)) = bk); (try dsimp only [List.set_cons_zero, List.set_cons_succ]); (try clear g); intro g)
      go_ret2
      exact ⟨rfl, G.below _⟩
    · rw [decide_eq_true hr] at C1
      rw [decide_eq_false hh] at C2
      clear hn hr hh
      go_enter Try.func22, Try.ntmps22
      go_wp2_with (with_reducible refine G.any_mark _ ?_; (try generalize Array.size (World.heap (G.w _)) = bk); (try dsimp only [List.set_cons_zero, List.set_cons_succ]); (try clear g); intro g)
      refine (C1.out _).mono ?_
      rintro e w1 ⟨rfl, hb⟩
      obtain ⟨g1, rfl⟩ := G.call_ex _ hb
      clear hb
      (try clear g)
      revert g1
      intro g
      go_wp2_with (with_reducible refine G.any_mark _ ?_; (try generalize Array.size (World.heap (G.w _)) = bk); (try dsimp only [List.set_cons_zero, List.set_cons_succ]); (try clear g); intro g)
      refine (C2.out _).mono ?_
      rintro e w1 ⟨rfl, hb⟩
      obtain ⟨g1, rfl⟩ := G.call_ex _ hb
      clear hb
      (try clear g)
      revert g1
      intro g
      go_wp2_with (with_reducible refine G.any_mark _ ?_; (try generalize Array.size (World.heap (G.w _)) = bk); (try dsimp only [List.set_cons_zero, List.set_cons_succ]); (try clear g); intro g)
      go_ret2
      exact ⟨rfl, G.below _⟩
  · rw [decide_eq_false hr] at C1
    clear hn hr
    go_enter Try.func22, Try.ntmps22
    go_wp2_with (with_reducible refine G.any_mark _ ?_; (try generalize Array.size (World.heap (G.w _)) = bk); (try dsimp only [List.set_cons_zero, List.set_cons_succ]); (try clear g); intro g)
    refine (C1.out _).mono ?_
    rintro e w1 ⟨rfl, hb⟩
    obtain ⟨g1, rfl⟩ := G.call_ex _ hb
    clear hb
    (try clear g)
    revert g1
    intro g
    go_wp2_with (with_reducible refine G.any_mark _ ?_; (try generalize Array.size (World.heap (G.w _)) = bk); (try dsimp only [List.set_cons_zero, List.set_cons_succ]); (try clear g); intro g)
    go_ret2
    exact ⟨rfl, G.below _⟩
set_option maxRecDepth 20000 in
theorem rcurve_no (r h : Int) (hn : ¬ (Way r ∧ Way h ∧ h < r)) (w : World) :
    Calls Try.prog 23 #[.int .i64 r, .int .i64 h] w fun e w' => e = .returned (.tuple #[.int .i64 0, .int .i64 2]) ∧ Below w.heap.size w w' := by
  refine calls_b fun g => ?_
  have C1 := Lib.hid (fun w => rreach_any r w)
  have C2 := Lib.hid (fun w => rreach_any h w)
  by_cases hr : Way r
  · by_cases hh : Way h
    · have hrh : r ≤ h := by
        rcases Int.lt_or_le h r with q | q
        · exact absurd ⟨hr, hh, q⟩ hn
        · exact q
      rw [decide_eq_true hr] at C1
      rw [decide_eq_true hh] at C2
      clear hn hr hh
      go_enter Try.func23, Try.ntmps23
      go_wp2_with (with_reducible refine G.any_mark _ ?_; (try generalize Array.size (World.heap (G.w _)) = bk); (try dsimp only [List.set_cons_zero, List.set_cons_succ]); (try clear g); intro g)
      refine (C1.out _).mono ?_
      rintro e w1 ⟨rfl, hb⟩
      obtain ⟨g1, rfl⟩ := G.call_ex _ hb
      clear hb
      (try clear g)
      revert g1
      intro g
      go_wp2_with (with_reducible refine G.any_mark _ ?_; (try generalize Array.size (World.heap (G.w _)) = bk); (try dsimp only [List.set_cons_zero, List.set_cons_succ]); (try clear g); intro g)
      refine (C2.out _).mono ?_
      rintro e w1 ⟨rfl, hb⟩
      obtain ⟨g1, rfl⟩ := G.call_ex _ hb
      clear hb
      (try clear g)
      revert g1
      intro g
      go_wp2_with (with_reducible refine G.any_mark _ ?_; (try generalize Array.size (World.heap (G.w _)) = bk); (try dsimp only [List.set_cons_zero, List.set_cons_succ]); (try clear g); intro g)
      go_ret2
      exact ⟨rfl, G.below _⟩
    · rw [decide_eq_true hr] at C1
      rw [decide_eq_false hh] at C2
      clear hn hr hh
      go_enter Try.func23, Try.ntmps23
      go_wp2_with (with_reducible refine G.any_mark _ ?_; (try generalize Array.size (World.heap (G.w _)) = bk); (try dsimp only [List.set_cons_zero, List.set_cons_succ]); (try clear g); intro g)
      refine (C1.out _).mono ?_
      rintro e w1 ⟨rfl, hb⟩
      obtain ⟨g1, rfl⟩ := G.call_ex _ hb
      clear hb
      (try clear g)
      revert g1
      intro g
      go_wp2_with (with_reducible refine G.any_mark _ ?_; (try generalize Array.size (World.heap (G.w _)) = bk); (try dsimp only [List.set_cons_zero, List.set_cons_succ]); (try clear g); intro g)
      refine (C2.out _).mono ?_
      rintro e w1 ⟨rfl, hb⟩
      obtain ⟨g1, rfl⟩ := G.call_ex _ hb
      clear hb
      (try clear g)
      revert g1
      intro g
      go_wp2_with (with_reducible refine G.any_mark _ ?_; (try generalize Array.size (World.heap (G.w _)) = bk); (try dsimp only [List.set_cons_zero, List.set_cons_succ]); (try clear g); intro g)
      go_ret2
      exact ⟨rfl, G.below _⟩
  · rw [decide_eq_false hr] at C1
    clear hn hr
    go_enter Try.func23, Try.ntmps23
    go_wp2_with (with_reducible refine G.any_mark _ ?_; (try generalize Array.size (World.heap (G.w _)) = bk); (try dsimp only [List.set_cons_zero, List.set_cons_succ]); (try clear g); intro g)
    refine (C1.out _).mono ?_
    rintro e w1 ⟨rfl, hb⟩
    obtain ⟨g1, rfl⟩ := G.call_ex _ hb
    clear hb
    (try clear g)
    revert g1
    intro g
    go_wp2_with (with_reducible refine G.any_mark _ ?_; (try generalize Array.size (World.heap (G.w _)) = bk); (try dsimp only [List.set_cons_zero, List.set_cons_succ]); (try clear g); intro g)
    go_ret2
    exact ⟨rfl, G.below _⟩
set_option maxRecDepth 20000 in
set_option maxHeartbeats 2000000 in
theorem dcurve_yes (r h : Int) (hr : Way r) (hh : Way h) (hlt : h < r) (w : World) :
    Calls Try.prog 22 #[.int .i64 r, .int .i64 h] w fun e w' => e = .returned (.tuple #[.int .i64 (if curveN r h < 9223372036854775808 then ((curveN r h : Int), (0 : Int)) else (0, 5)).1, .int .i64 (if curveN r h < 9223372036854775808 then ((curveN r h : Int), (0 : Int)) else (0, 5)).2]) ∧ Below w.heap.size w w' := by
  refine calls_b fun g => ?_
  have C1 := Lib.hid (fun w => reach_any r w)
  have C2 := Lib.hid (fun w => reach_any h w)
  rw [decide_eq_true hr, show nearE true = 0 from rfl] at C1
  rw [decide_eq_true hh, show nearE true = 0 from rfl] at C2
  unfold Way at hr hh
  obtain ⟨n, hn⟩ : ∃ n, h.natAbs = n := ⟨_, rfl⟩
  obtain ⟨k, hk⟩ : ∃ k, (2 * (r - h)).natAbs = k := ⟨_, rfl⟩
  have n40 : n < 2 ^ 40 := by omega
  have k40 : k < 2 ^ 41 := by omega
  have k0 : 0 < k := by omega
  have nn : n * n < 2 ^ 80 := sq_lt2 n40 n40
  have hki : (k : Int) = 2 * (r - h) := by omega
  have hc : curveN r h = n * n / k + (if n * n % k = 0 then 0 else 1) := by unfold curveN; rw [hn, hk]; exact DI.ceil_eq _ _ k0
  have w1 : IntKind.i64.wrap (r - h) = r - h := by rw [IntKind.wrap_i64]; omega
  have w2 : IntKind.i64.wrap (2 * (r - h)) = (k : Int) := by rw [IntKind.wrap_i64]; omega
  have hq8 : n * n / k < 2 ^ 80 := Nat.lt_of_le_of_lt (Nat.div_le_self _ _) nn
  have CO := Lib.hid (fun w => Of_pos k (by omega) w)
  have CS := Lib.hid (fun w => dsq_any h n hn (by omega) w)
  have CD := Lib.hid (fun A1 A2 c1 c2 w h1 h2 => Div_ok A1 A2 c1 c2 (n * n) k w h1 h2 (p8192 nn (by decide)) (p8192 k40 (by decide)) (by omega))
  have CA := Lib.hid (fun A1 A2 c1 c2 w h1 h2 => Add_ok A1 A2 c1 c2 (n * n / k) 1 w h1 h2 (p8192 hq8 (by decide)) (p8192 (k := 1) (by decide) (by decide)) (p8192 (k := 81) (by omega) (by decide)))
  have CI := Lib.hid (fun A c w h1 => Int_any A c (limbs (curveN r h)) w h1)
  rw [outI_c (p8192 (k := 81) (by rw [hc]; split <;> omega) (by decide))] at CI
  have one : Hid ((limbs 1).length = 1 ∧ [Value.int .u32 1] = u32s (limbs 1)) := Lib.hid ⟨by rw [show limbs 1 = [1] from limbs_one (by decide) (by decide)]; rfl, by rw [show limbs 1 = [1] from limbs_one (by decide) (by decide)]; rfl⟩
  unfold RNE at CO CA
  unfold RLim at CS
  unfold RNNE at CD
  dsimp only at CO CA
  rw [one.out.1] at CA
  have hrem : (n * n % k = 0 ∧ curveN r h = n * n / k ∧ (limbs (n * n % k)).length = 0) ∨ (curveN r h = n * n / k + 1 ∧ 0 < (limbs (n * n % k)).length) := by
    by_cases g : n * n % k = 0
    · left; refine ⟨g, by rw [hc, if_pos g]; rfl, by rw [g, limbs_zero]; rfl⟩
    · right; exact ⟨by rw [hc, if_neg g], lim_pos g⟩
  generalize hC : curveN r h = C at *
  generalize hl1 : (limbs (n * n % k)).length = lr at *
  generalize hl2 : (limbs (n * n)).length = lnn at *
  generalize hl3 : (limbs k).length = lk at *
  generalize hRes : (if C < 9223372036854775808 then ((C : Int), (0 : Int)) else (0, 5)) = Res at *
  clear hRes hl1 hl2 hl3 hC hc hr hh hn hk n40 k40 k0 nn hki hq8
  rcases hrem with ⟨-, e, rfl⟩ | ⟨e, hpos⟩
  · rw [e] at CI
    generalize hl4 : (limbs (n * n / k)).length = lq at *
    clear hl4 CA e
    go_enter Try.func22, Try.ntmps22
    go_wp2_with (with_reducible refine G.any_mark _ ?_; (try generalize Array.size (World.heap (G.w _)) = bk); (try dsimp only [List.set_cons_zero, List.set_cons_succ]); (try clear g); intro g)
    refine (C1.out _).mono ?_
    rintro e w1 ⟨rfl, hb⟩
    obtain ⟨g1, rfl⟩ := G.call_ex _ hb
    clear hb
    (try clear g)
    revert g1
    intro g
    go_wp2_with (with_reducible refine G.any_mark _ ?_; (try generalize Array.size (World.heap (G.w _)) = bk); (try dsimp only [List.set_cons_zero, List.set_cons_succ]); (try clear g); intro g)
    refine (C2.out _).mono ?_
    rintro e w1 ⟨rfl, hb⟩
    obtain ⟨g1, rfl⟩ := G.call_ex _ hb
    clear hb
    (try clear g)
    revert g1
    intro g
    go_wp2_with (with_reducible refine G.any_mark _ ?_; (try generalize Array.size (World.heap (G.w _)) = bk); (try dsimp only [List.set_cons_zero, List.set_cons_succ]); (try clear g); intro g)
    refine (CO.out _).mono ?_
    rintro e w1 ⟨Au, cu, Fu, rfl, hsu, hn⟩
    (try dsimp only at hsu)
    have hnnu := fun k o hk => Nat.le_trans g.chg.size (hn.new k o hk)
    obtain ⟨g1, rfl⟩ := G.new_ex _ hn
    clear hn
    (try clear g)
    revert g1
    intro g
    go_wp2_with (with_reducible refine G.any_mark _ ?_; (try generalize Array.size (World.heap (G.w _)) = bk); (try dsimp only [List.set_cons_zero, List.set_cons_succ]); (try clear g); intro g)
    refine (CS.out _).mono ?_
    rintro e w1 ⟨As, cs, Fs, rfl, hss, hn⟩
    (try dsimp only at hss)
    have hnns := fun k o hk => Nat.le_trans g.chg.size (hn.new k o hk)
    obtain ⟨g1, rfl⟩ := G.new_ex _ hn
    clear hn
    (try clear g)
    revert g1
    intro g
    go_wp2_with (with_reducible refine G.any_mark _ ?_; (try generalize Array.size (World.heap (G.w _)) = bk); (try dsimp only [List.set_cons_zero, List.set_cons_succ]); (try clear g); intro g)
    refine (CD.out _ _ _ _ _ (G.sl g (by simp) hss) (G.sl g (by simp) hsu)).mono ?_
    rintro e w1 ⟨Aq, cq, Fq, Bq, dq, Hq, rfl, hsq, htq, hn, hm⟩
    have hnnq := fun k o hk => Nat.le_trans g.chg.size (hn.new k o hk)
    have hmmq := fun k o hk => Nat.le_trans g.chg.size (hm.new k o hk)
    obtain ⟨g1, rfl⟩ := G.new2_ex _ hn hm
    clear hn hm
    (try clear g)
    revert g1
    intro g
    go_wp2_with (with_reducible refine G.any_mark _ ?_; (try generalize Array.size (World.heap (G.w _)) = bk); (try dsimp only [List.set_cons_zero, List.set_cons_succ]); (try clear g); intro g)
    refine (CI.out _ _ _ (G.sl g (by simp) hsq)).mono ?_
    rintro e w1 ⟨rfl, hb⟩
    obtain ⟨g1, rfl⟩ := G.call_ex _ hb
    clear hb
    (try clear g)
    revert g1
    intro g
    go_wp2_with (with_reducible refine G.any_mark _ ?_; (try generalize Array.size (World.heap (G.w _)) = bk); (try dsimp only [List.set_cons_zero, List.set_cons_succ]); (try clear g); intro g)
    go_ret2
    exact ⟨rfl, G.below _⟩
  · rw [e] at CI
    generalize hl4 : (limbs (n * n / k)).length = lq at *
    generalize hl5 : (limbs (n * n / k + 1)).length = lq1 at *
    have hp2 : (0 : Int) < (lr : Int) := by omega
    clear hl4 hl5 e hpos
    go_enter Try.func22, Try.ntmps22
    go_wp2_with (with_reducible refine G.any_mark _ ?_; (try generalize Array.size (World.heap (G.w _)) = bk); (try dsimp only [List.set_cons_zero, List.set_cons_succ]); (try clear g); intro g)
    refine (C1.out _).mono ?_
    rintro e w1 ⟨rfl, hb⟩
    obtain ⟨g1, rfl⟩ := G.call_ex _ hb
    clear hb
    (try clear g)
    revert g1
    intro g
    go_wp2_with (with_reducible refine G.any_mark _ ?_; (try generalize Array.size (World.heap (G.w _)) = bk); (try dsimp only [List.set_cons_zero, List.set_cons_succ]); (try clear g); intro g)
    refine (C2.out _).mono ?_
    rintro e w1 ⟨rfl, hb⟩
    obtain ⟨g1, rfl⟩ := G.call_ex _ hb
    clear hb
    (try clear g)
    revert g1
    intro g
    go_wp2_with (with_reducible refine G.any_mark _ ?_; (try generalize Array.size (World.heap (G.w _)) = bk); (try dsimp only [List.set_cons_zero, List.set_cons_succ]); (try clear g); intro g)
    refine (CO.out _).mono ?_
    rintro e w1 ⟨Au, cu, Fu, rfl, hsu, hn⟩
    (try dsimp only at hsu)
    have hnnu := fun k o hk => Nat.le_trans g.chg.size (hn.new k o hk)
    obtain ⟨g1, rfl⟩ := G.new_ex _ hn
    clear hn
    (try clear g)
    revert g1
    intro g
    go_wp2_with (with_reducible refine G.any_mark _ ?_; (try generalize Array.size (World.heap (G.w _)) = bk); (try dsimp only [List.set_cons_zero, List.set_cons_succ]); (try clear g); intro g)
    refine (CS.out _).mono ?_
    rintro e w1 ⟨As, cs, Fs, rfl, hss, hn⟩
    (try dsimp only at hss)
    have hnns := fun k o hk => Nat.le_trans g.chg.size (hn.new k o hk)
    obtain ⟨g1, rfl⟩ := G.new_ex _ hn
    clear hn
    (try clear g)
    revert g1
    intro g
    go_wp2_with (with_reducible refine G.any_mark _ ?_; (try generalize Array.size (World.heap (G.w _)) = bk); (try dsimp only [List.set_cons_zero, List.set_cons_succ]); (try clear g); intro g)
    refine (CD.out _ _ _ _ _ (G.sl g (by simp) hss) (G.sl g (by simp) hsu)).mono ?_
    rintro e w1 ⟨Aq, cq, Fq, Bq, dq, Hq, rfl, hsq, htq, hn, hm⟩
    have hnnq := fun k o hk => Nat.le_trans g.chg.size (hn.new k o hk)
    have hmmq := fun k o hk => Nat.le_trans g.chg.size (hm.new k o hk)
    obtain ⟨g1, rfl⟩ := G.new2_ex _ hn hm
    clear hn hm
    (try clear g)
    revert g1
    intro g
    go_wp2_with (with_reducible refine G.any_mark _ ?_; (try generalize Array.size (World.heap (G.w _)) = bk); (try dsimp only [List.set_cons_zero, List.set_cons_succ]); (try clear g); intro g)
    refine (CA.out _ _ _ _ _ (G.sl g (by simp) hsq) (G.lit0 g _ _ one.out.2 one.out.1 (by decide))).mono ?_
    rintro e w1 ⟨Az, cz, Fz, rfl, hsz, hn⟩
    (try dsimp only at hsz)
    have hnnz := fun k o hk => Nat.le_trans g.chg.size (hn.new k o hk)
    obtain ⟨g1, rfl⟩ := G.new_ex _ hn
    clear hn
    (try clear g)
    revert g1
    intro g
    go_wp2_with (with_reducible refine G.any_mark _ ?_; (try generalize Array.size (World.heap (G.w _)) = bk); (try dsimp only [List.set_cons_zero, List.set_cons_succ]); (try clear g); intro g)
    refine (CI.out _ _ _ (G.sl g (by simp) hsz)).mono ?_
    rintro e w1 ⟨rfl, hb⟩
    obtain ⟨g1, rfl⟩ := G.call_ex _ hb
    clear hb
    (try clear g)
    revert g1
    intro g
    go_wp2_with (with_reducible refine G.any_mark _ ?_; (try generalize Array.size (World.heap (G.w _)) = bk); (try dsimp only [List.set_cons_zero, List.set_cons_succ]); (try clear g); intro g)
    go_ret2
    exact ⟨rfl, G.below _⟩
end Go.Proofs.Ytodigegjngnknaa
namespace Go.Proofs.Ytodigegjngnknaa
open Go.RowKit GW NL
set_option maxRecDepth 20000 in
set_option maxHeartbeats 2000000 in
theorem rcurve_yes (r h : Int) (hr : Way r) (hh : Way h) (hlt : h < r) (w : World) :
    Calls Try.prog 23 #[.int .i64 r, .int .i64 h] w fun e w' => e = .returned (.tuple #[.int .i64 (if curveN r h < 9223372036854775808 then ((curveN r h : Int), (0 : Int)) else (0, 5)).1, .int .i64 (if curveN r h < 9223372036854775808 then ((curveN r h : Int), (0 : Int)) else (0, 5)).2]) ∧ Below w.heap.size w w' := by
  refine calls_b fun g => ?_
  have C1 := Lib.hid (fun w => rreach_any r w)
  have C2 := Lib.hid (fun w => rreach_any h w)
  rw [decide_eq_true hr] at C1
  rw [decide_eq_true hh] at C2
  unfold Way at hr hh
  obtain ⟨n, hn⟩ : ∃ n, h.natAbs = n := ⟨_, rfl⟩
  obtain ⟨k, hk⟩ : ∃ k, (2 * (r - h)).natAbs = k := ⟨_, rfl⟩
  have n40 : n < 2 ^ 40 := by omega
  have k40 : k < 2 ^ 41 := by omega
  have k0 : 0 < k := by omega
  have nn : n * n < 2 ^ 80 := sq_lt2 n40 n40
  have hki : (k : Int) = 2 * (r - h) := by omega
  have hc : curveN r h = n * n / k + (if n * n % k = 0 then 0 else 1) := by unfold curveN; rw [hn, hk]; exact DI.ceil_eq _ _ k0
  have htop : n * n / k = 9223372036854775807 → n * n % k = 0 := by
    obtain ⟨m, hm⟩ : ∃ m, k = 2 * m := ⟨(r - h).natAbs, by omega⟩
    rw [hm]
    exact DI.no_top (by omega) (by omega)
  have w1 : IntKind.i64.wrap (r - h) = r - h := by rw [IntKind.wrap_i64]; omega
  have w2 : IntKind.i64.wrap (2 * (r - h)) = (k : Int) := by rw [IntKind.wrap_i64]; omega
  have hq8 : n * n / k < 2 ^ 80 := Nat.lt_of_le_of_lt (Nat.div_le_self _ _) nn
  have CO := Lib.hid (fun w => rOf_pos k (by omega) w)
  have CS := Lib.hid (fun w => rsq_any h n hn (by omega) w)
  have l1 : (limbs (n * n)).length ≤ 1000 := lim_lt (k := 3) (Nat.lt_of_lt_of_le nn (Nat.pow_le_pow_right (by decide) (by decide))) (by decide)
  have l2 : (limbs k).length ≤ 1000 := lim_lt (k := 2) (Nat.lt_of_lt_of_le k40 (Nat.pow_le_pow_right (by decide) (by decide))) (by decide)
  have CD := Lib.hid (fun A1 A2 c1 c2 w h1 h2 => rquot_any A1 A2 c1 c2 (n * n) k w h1 h2 (by omega) (by omega) (by omega))
  have CI := Lib.hid (fun A c w h1 => rInt_any A c (limbs (n * n / k)) w h1)
  rw [outI_c (p8192 hq8 (by decide))] at CI
  unfold RNE at CO
  unfold RNat at CS
  unfold RNN at CD
  dsimp only at CO
  have hrem : (curveN r h = n * n / k ∧ (limbs (n * n % k)).length = 0) ∨ (n * n / k ≠ 9223372036854775807 ∧ curveN r h = n * n / k + 1 ∧ 0 < (limbs (n * n % k)).length) := by
    by_cases g : n * n % k = 0
    · left; exact ⟨by rw [hc, if_pos g]; rfl, by rw [g, limbs_zero]; rfl⟩
    · right; exact ⟨fun e => g (htop e), by rw [hc, if_neg g], lim_pos g⟩
  generalize hC : curveN r h = C at *
  generalize hl1 : (limbs (n * n % k)).length = lr at *
  generalize hl2 : (limbs (n * n)).length = lnn at *
  generalize hl3 : (limbs k).length = lk at *
  generalize hl4 : (limbs (n * n / k)).length = lq at *
  generalize hq : n * n / k = q at *
  clear hl1 hl2 hl3 hl4 hC hc hr hh hn hk n40 k40 k0 nn hki hq8 l1 l2 htop hq
  by_cases hover : q < 9223372036854775808
  · rw [if_pos hover] at CI
    dsimp only at CI
    rcases hrem with ⟨rfl, rfl⟩ | ⟨hne, rfl, hpos⟩
    · rw [if_pos hover]
      clear hover
      go_enter Try.func23, Try.ntmps23
      go_wp2_with (with_reducible refine G.any_mark _ ?_; (try generalize Array.size (World.heap (G.w _)) = bk); (try dsimp only [List.set_cons_zero, List.set_cons_succ]); (try clear g); intro g)
      refine (C1.out _).mono ?_
      rintro e w1 ⟨rfl, hb⟩
      obtain ⟨g1, rfl⟩ := G.call_ex _ hb
      clear hb
      (try clear g)
      revert g1
      intro g
      go_wp2_with (with_reducible refine G.any_mark _ ?_; (try generalize Array.size (World.heap (G.w _)) = bk); (try dsimp only [List.set_cons_zero, List.set_cons_succ]); (try clear g); intro g)
      refine (C2.out _).mono ?_
      rintro e w1 ⟨rfl, hb⟩
      obtain ⟨g1, rfl⟩ := G.call_ex _ hb
      clear hb
      (try clear g)
      revert g1
      intro g
      go_wp2_with (with_reducible refine G.any_mark _ ?_; (try generalize Array.size (World.heap (G.w _)) = bk); (try dsimp only [List.set_cons_zero, List.set_cons_succ]); (try clear g); intro g)
      refine (CO.out _).mono ?_
      rintro e w1 ⟨Au, cu, Fu, rfl, hsu, hn⟩
      (try dsimp only at hsu)
      have hnnu := fun k o hk => Nat.le_trans g.chg.size (hn.new k o hk)
      obtain ⟨g1, rfl⟩ := G.new_ex _ hn
      clear hn
      (try clear g)
      revert g1
      intro g
      go_wp2_with (with_reducible refine G.any_mark _ ?_; (try generalize Array.size (World.heap (G.w _)) = bk); (try dsimp only [List.set_cons_zero, List.set_cons_succ]); (try clear g); intro g)
      refine (CS.out _).mono ?_
      rintro e w1 ⟨As, cs, Fs, rfl, hss, hn⟩
      (try dsimp only at hss)
      have hnns := fun k o hk => Nat.le_trans g.chg.size (hn.new k o hk)
      obtain ⟨g1, rfl⟩ := G.new_ex _ hn
      clear hn
      (try clear g)
      revert g1
      intro g
      go_wp2_with (with_reducible refine G.any_mark _ ?_; (try generalize Array.size (World.heap (G.w _)) = bk); (try dsimp only [List.set_cons_zero, List.set_cons_succ]); (try clear g); intro g)
      refine (CD.out _ _ _ _ _ (G.sl g (by simp) hss) (G.sl g (by simp) hsu)).mono ?_
      rintro e w1 ⟨Aq, cq, Fq, Bq, dq, Hq, rfl, hsq, htq, hn, hm⟩
      have hnnq := fun k o hk => Nat.le_trans g.chg.size (hn.new k o hk)
      have hmmq := fun k o hk => Nat.le_trans g.chg.size (hm.new k o hk)
      obtain ⟨g1, rfl⟩ := G.new2_ex _ hn hm
      clear hn hm
      (try clear g)
      revert g1
      intro g
      go_wp2_with (with_reducible refine G.any_mark _ ?_; (try generalize Array.size (World.heap (G.w _)) = bk); (try dsimp only [List.set_cons_zero, List.set_cons_succ]); (try clear g); intro g)
      refine (CI.out _ _ _ (G.sl g (by simp) hsq)).mono ?_
      rintro e w1 ⟨rfl, hb⟩
      obtain ⟨g1, rfl⟩ := G.call_ex _ hb
      clear hb
      (try clear g)
      revert g1
      intro g
      go_wp2_with (with_reducible refine G.any_mark _ ?_; (try generalize Array.size (World.heap (G.w _)) = bk); (try dsimp only [List.set_cons_zero, List.set_cons_succ]); (try clear g); intro g)
      go_ret2
      exact ⟨rfl, G.below _⟩
    · have hv2 : q + 1 < 9223372036854775808 := by omega
      rw [if_pos hv2]
      have w5 : IntKind.i64.wrap ((q : Int) + 1) = ((q + 1 : Nat) : Int) := by rw [IntKind.wrap_i64]; omega
      have hp2 : (0 : Int) < (lr : Int) := by omega
      have HC := Lib.hid (show ((q + 1 : Nat) : Int) = (q : Int) + 1 by omega)
      dsimp only
      generalize ((q + 1 : Nat) : Int) = q1 at *
      clear hover hpos hne hv2
      go_enter Try.func23, Try.ntmps23
      go_wp2_with (with_reducible refine G.any_mark _ ?_; (try generalize Array.size (World.heap (G.w _)) = bk); (try dsimp only [List.set_cons_zero, List.set_cons_succ]); (try clear g); intro g)
      refine (C1.out _).mono ?_
      rintro e w1 ⟨rfl, hb⟩
      obtain ⟨g1, rfl⟩ := G.call_ex _ hb
      clear hb
      (try clear g)
      revert g1
      intro g
      go_wp2_with (with_reducible refine G.any_mark _ ?_; (try generalize Array.size (World.heap (G.w _)) = bk); (try dsimp only [List.set_cons_zero, List.set_cons_succ]); (try clear g); intro g)
      refine (C2.out _).mono ?_
      rintro e w1 ⟨rfl, hb⟩
      obtain ⟨g1, rfl⟩ := G.call_ex _ hb
      clear hb
      (try clear g)
      revert g1
      intro g
      go_wp2_with (with_reducible refine G.any_mark _ ?_; (try generalize Array.size (World.heap (G.w _)) = bk); (try dsimp only [List.set_cons_zero, List.set_cons_succ]); (try clear g); intro g)
      refine (CO.out _).mono ?_
      rintro e w1 ⟨Au, cu, Fu, rfl, hsu, hn⟩
      (try dsimp only at hsu)
      have hnnu := fun k o hk => Nat.le_trans g.chg.size (hn.new k o hk)
      obtain ⟨g1, rfl⟩ := G.new_ex _ hn
      clear hn
      (try clear g)
      revert g1
      intro g
      go_wp2_with (with_reducible refine G.any_mark _ ?_; (try generalize Array.size (World.heap (G.w _)) = bk); (try dsimp only [List.set_cons_zero, List.set_cons_succ]); (try clear g); intro g)
      refine (CS.out _).mono ?_
      rintro e w1 ⟨As, cs, Fs, rfl, hss, hn⟩
      (try dsimp only at hss)
      have hnns := fun k o hk => Nat.le_trans g.chg.size (hn.new k o hk)
      obtain ⟨g1, rfl⟩ := G.new_ex _ hn
      clear hn
      (try clear g)
      revert g1
      intro g
      go_wp2_with (with_reducible refine G.any_mark _ ?_; (try generalize Array.size (World.heap (G.w _)) = bk); (try dsimp only [List.set_cons_zero, List.set_cons_succ]); (try clear g); intro g)
      refine (CD.out _ _ _ _ _ (G.sl g (by simp) hss) (G.sl g (by simp) hsu)).mono ?_
      rintro e w1 ⟨Aq, cq, Fq, Bq, dq, Hq, rfl, hsq, htq, hn, hm⟩
      have hnnq := fun k o hk => Nat.le_trans g.chg.size (hn.new k o hk)
      have hmmq := fun k o hk => Nat.le_trans g.chg.size (hm.new k o hk)
      obtain ⟨g1, rfl⟩ := G.new2_ex _ hn hm
      clear hn hm
      (try clear g)
      revert g1
      intro g
      go_wp2_with (with_reducible refine G.any_mark _ ?_; (try generalize Array.size (World.heap (G.w _)) = bk); (try dsimp only [List.set_cons_zero, List.set_cons_succ]); (try clear g); intro g)
      refine (CI.out _ _ _ (G.sl g (by simp) hsq)).mono ?_
      rintro e w1 ⟨rfl, hb⟩
      obtain ⟨g1, rfl⟩ := G.call_ex _ hb
      clear hb
      (try clear g)
      revert g1
      intro g
      go_wp2_with (with_reducible refine G.any_mark _ ?_; (try generalize Array.size (World.heap (G.w _)) = bk); (try dsimp only [List.set_cons_zero, List.set_cons_succ]); (try clear g); intro g)
      go_ret2
      exact ⟨rfl, G.below _⟩
  · have hC2 : ¬ C < 9223372036854775808 := by rcases hrem with ⟨e, _⟩ | ⟨_, e, _⟩ <;> omega
    rw [if_neg hover] at CI
    rw [if_neg hC2]
    dsimp only at CI
    clear hover hC2 hrem
    go_enter Try.func23, Try.ntmps23
    go_wp2_with (with_reducible refine G.any_mark _ ?_; (try generalize Array.size (World.heap (G.w _)) = bk); (try dsimp only [List.set_cons_zero, List.set_cons_succ]); (try clear g); intro g)
    refine (C1.out _).mono ?_
    rintro e w1 ⟨rfl, hb⟩
    obtain ⟨g1, rfl⟩ := G.call_ex _ hb
    clear hb
    (try clear g)
    revert g1
    intro g
    go_wp2_with (with_reducible refine G.any_mark _ ?_; (try generalize Array.size (World.heap (G.w _)) = bk); (try dsimp only [List.set_cons_zero, List.set_cons_succ]); (try clear g); intro g)
    refine (C2.out _).mono ?_
    rintro e w1 ⟨rfl, hb⟩
    obtain ⟨g1, rfl⟩ := G.call_ex _ hb
    clear hb
    (try clear g)
    revert g1
    intro g
    go_wp2_with (with_reducible refine G.any_mark _ ?_; (try generalize Array.size (World.heap (G.w _)) = bk); (try dsimp only [List.set_cons_zero, List.set_cons_succ]); (try clear g); intro g)
    refine (CO.out _).mono ?_
    rintro e w1 ⟨Au, cu, Fu, rfl, hsu, hn⟩
    (try dsimp only at hsu)
    have hnnu := fun k o hk => Nat.le_trans g.chg.size (hn.new k o hk)
    obtain ⟨g1, rfl⟩ := G.new_ex _ hn
    clear hn
    (try clear g)
    revert g1
    intro g
    go_wp2_with (with_reducible refine G.any_mark _ ?_; (try generalize Array.size (World.heap (G.w _)) = bk); (try dsimp only [List.set_cons_zero, List.set_cons_succ]); (try clear g); intro g)
    refine (CS.out _).mono ?_
    rintro e w1 ⟨As, cs, Fs, rfl, hss, hn⟩
    (try dsimp only at hss)
    have hnns := fun k o hk => Nat.le_trans g.chg.size (hn.new k o hk)
    obtain ⟨g1, rfl⟩ := G.new_ex _ hn
    clear hn
    (try clear g)
    revert g1
    intro g
    go_wp2_with (with_reducible refine G.any_mark _ ?_; (try generalize Array.size (World.heap (G.w _)) = bk); (try dsimp only [List.set_cons_zero, List.set_cons_succ]); (try clear g); intro g)
    refine (CD.out _ _ _ _ _ (G.sl g (by simp) hss) (G.sl g (by simp) hsu)).mono ?_
    rintro e w1 ⟨Aq, cq, Fq, Bq, dq, Hq, rfl, hsq, htq, hn, hm⟩
    have hnnq := fun k o hk => Nat.le_trans g.chg.size (hn.new k o hk)
    have hmmq := fun k o hk => Nat.le_trans g.chg.size (hm.new k o hk)
    obtain ⟨g1, rfl⟩ := G.new2_ex _ hn hm
    clear hn hm
    (try clear g)
    revert g1
    intro g
    go_wp2_with (with_reducible refine G.any_mark _ ?_; (try generalize Array.size (World.heap (G.w _)) = bk); (try dsimp only [List.set_cons_zero, List.set_cons_succ]); (try clear g); intro g)
    refine (CI.out _ _ _ (G.sl g (by simp) hsq)).mono ?_
    rintro e w1 ⟨rfl, hb⟩
    obtain ⟨g1, rfl⟩ := G.call_ex _ hb
    clear hb
    (try clear g)
    revert g1
    intro g
    go_wp2_with (with_reducible refine G.any_mark _ ?_; (try generalize Array.size (World.heap (G.w _)) = bk); (try dsimp only [List.set_cons_zero, List.set_cons_succ]); (try clear g); intro g)
    go_ret2
    exact ⟨rfl, G.below _⟩
theorem dcurve_any (r h : Int) (w : World) :
    Calls Try.prog 22 #[.int .i64 r, .int .i64 h] w fun e w' => e = .returned (.tuple #[.int .i64 (curveX r h).1, .int .i64 (curveX r h).2]) ∧ Below w.heap.size w w' := by
  unfold curveX
  by_cases hc : Way r ∧ Way h ∧ h < r
  · rw [if_pos hc]; exact dcurve_yes r h hc.1 hc.2.1 hc.2.2 w
  · rw [if_neg hc]; exact dcurve_no r h hc w
theorem rcurve_any (r h : Int) (w : World) :
    Calls Try.prog 23 #[.int .i64 r, .int .i64 h] w fun e w' => e = .returned (.tuple #[.int .i64 (curveX r h).1, .int .i64 (curveX r h).2]) ∧ Below w.heap.size w w' := by
  unfold curveX
  by_cases hc : Way r ∧ Way h ∧ h < r
  · rw [if_pos hc]; exact rcurve_yes r h hc.1 hc.2.1 hc.2.2 w
  · rw [if_neg hc]; exact rcurve_no r h hc w
end Go.Proofs.Ytodigegjngnknaa
