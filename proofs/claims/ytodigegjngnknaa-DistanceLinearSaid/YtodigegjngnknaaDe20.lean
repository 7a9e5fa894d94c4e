/- Plain facts and contracts of functions of the program, out of walks. Their conditions stand ahead of each. -/
import Derived.Test.YtodigegjngnknaaDe4
import Derived.Test.YtodigegjngnknaaDe7
import Derived.Test.YtodigegjngnknaaDe17
import Derived.Test.YtodigegjngnknaaDe19
import Derived.Below
import Derived.BigQuiet
import Derived.Deep.Draws
import Derived.Deep.QuietTactic
import Derived.Deep.RegionHeld3
import Derived.Laws.NewBlocks
import Derived.Laws.OwnMore
import Derived.Laws.Pointers
import Derived.Laws.Rows
import Derived.Lib.BitFns
import Derived.Lib.Hide
import Derived.Lib.ItoaNum
import Derived.LoopIn
import Derived.LoopNIn
import Derived.OrdersIn
import Derived.OwnWalkIn
import Derived.RangeFuncBound
import Derived.RangeFuncBox
import Derived.RangeFuncCalls
import Derived.RangeFuncLeaves
import Derived.RangeFuncNested
import Derived.RowKit3
import Derived.Shelf.Abstract
import Derived.Shelf.RegionOpen
import Derived.StillTactics
import Derived.StillTailTactics
import Derived.TacticsInMore
import Derived.Test.YtodigegjngnknaaProg
import Derived.WalkKit
import Derived.WalkLawsBesides
import Derived.WalkSpells
set_option linter.unusedVariables false
set_option linter.unusedSimpArgs false
namespace Go.Proofs.Ytodigegjngnknaa
open Go.RowKit GW NL Go.Shelf
attribute [local go_sem] Oper.semAt_some
/-- a coordinate -/
def co (X Y Z : Int) : Nat → Int | 0 => X | 1 => Y | _ => Z
theorem fin3 (k : Nat) (hk : k < 3) : (List.finRange 3).take (k + 1) = (List.finRange 3).take k ++ [⟨k, hk⟩] := by
  have : k = 0 ∨ k = 1 ∨ k = 2 := by omega
  rcases this with rfl | rfl | rfl <;> rfl
theorem idx3 (X Y Z : Int) (w : World) : (Instr.index 72 (.agg #[.int .i64 X, .int .i64 Y, .int .i64 Z]) (.int .i64 0)).run Try.prog w = .ok (.int .i64 X) w ∧ (Instr.index 72 (.agg #[.int .i64 X, .int .i64 Y, .int .i64 Z]) (.int .i64 1)).run Try.prog w = .ok (.int .i64 Y) w ∧ (Instr.index 72 (.agg #[.int .i64 X, .int .i64 Y, .int .i64 Z]) (.int .i64 2)).run Try.prog w = .ok (.int .i64 Z) w := by
  refine ⟨?_, ?_, ?_⟩ <;> kernel_rfl
set_option maxRecDepth 100000 in
set_option maxHeartbeats 2000000 in
theorem coord1_in (F : Fence) (nn : Nat) (h9 : F.fn 72) (hro : F.round = none) (hn : 1 ≤ nn) (l Bs : Nat) (X Y Z : Int) (Kp : World → World → Prop) (J Jx : List (Fin 3) → World → Prop)
    (hY : ∀ pre (x : Fin 3) W, J pre W → pre.length < 3 → YieldAt F (nn - 1) Try.prog l #[.int .i64 ((x.val : Nat) : Int), .int .i64 (co X Y Z x.val)] W fun e W' =>
      (e = .returned (.bool true) ∧ J (pre ++ [x]) W' ∧ Kp W W') ∨ (e = .returned (.bool false) ∧ Jx (pre ++ [x]) W'))
    (W : World) (h1 : W.cell? ⟨Bs, 0, none⟩ = some (.int .i64 X)) (h2 : W.cell? ⟨Bs, 1, none⟩ = some (.int .i64 Y)) (h3 : W.cell? ⟨Bs, 2, none⟩ = some (.int .i64 Z)) (h0 : J [] W) :
    CallsIn F nn Try.prog 72 #[.func (.yield l) #[] #[], .pointer (some ⟨Bs, 0, none⟩)] W fun e W' => (∃ v, e = .returned v) ∧
      ((∃ ys, ys = List.finRange 3 ∧ J ys W') ∨ (∃ pre, (∃ k, k ≤ 3 ∧ pre = (List.finRange 3).take k) ∧ Jx pre W')) := by
  refine callsIn_of_wp Try.func72 rfl h9 ?_ hro
  simp only [Try.ntmps72, List.size_toArray, List.length_cons, List.length_nil, Nat.reduceAdd, Nat.reduceSub, Array.replicate_succ, Array.replicate_zero, List.push_toArray, List.append_toArray, List.nil_append, List.cons_append]
  gi_wp2
  gi_loopw [15] (fun i wr => ∃ (k : Nat) (i' : Int), i = .int .i64 i' ∧ i' = (k : Int) ∧ k ≤ 3 ∧ J ((List.finRange 3).take k) wr) (fun i _ => (3 - intOf i).toNat)
  case atStart => exact ⟨0, 0, rfl, rfl, by omega, h0⟩
  case round =>
    obtain ⟨k, i', rfl, hi, hk, hJs⟩ := hrel
    have hk4 : k = 0 ∨ k = 1 ∨ k = 2 ∨ k = 3 := by omega
    rcases hk4 with rfl | rfl | rfl | rfl
    · obtain rfl : i' = 0 := by omega
      obtain ⟨fn, tmps, assign, body, hy, hR⟩ := hY _ ⟨0, by decide⟩ wr hJs (by decide)
      have hy2 : (Instr.yield l #[.int .i64 0, .int .i64 X]).run Try.prog wr = .ok (.round l fn tmps assign body) wr := hy
      clear hi hy
      obtain ⟨ix0, ix1, ix2⟩ := idx3 X Y Z wr
      gi_wp2
      refine hR.mono ?_
      rintro e W3 (⟨rfl, hJ3, hk3⟩ | ⟨rfl, hJx3⟩)
      · gi_wp2
        go_roundw
        case rel => exact ⟨1, 1, rfl, rfl, by omega, hJ3⟩
        case measure => first | (simp [intOf]; done) | (simp [intOf]; omega)
      · gi_wp2
        refine bodyPost_ret (results_none rfl _ _ _) rfl ?_
        exact ⟨⟨_, rfl⟩, .inr ⟨_, ⟨1, by omega, rfl⟩, hJx3⟩⟩
    · obtain rfl : i' = 1 := by omega
      obtain ⟨fn, tmps, assign, body, hy, hR⟩ := hY _ ⟨1, by decide⟩ wr hJs (by decide)
      have hy2 : (Instr.yield l #[.int .i64 1, .int .i64 Y]).run Try.prog wr = .ok (.round l fn tmps assign body) wr := hy
      clear hi hy
      obtain ⟨ix0, ix1, ix2⟩ := idx3 X Y Z wr
      gi_wp2
      refine hR.mono ?_
      rintro e W3 (⟨rfl, hJ3, hk3⟩ | ⟨rfl, hJx3⟩)
      · gi_wp2
        go_roundw
        case rel => exact ⟨2, 2, rfl, rfl, by omega, hJ3⟩
        case measure => first | (simp [intOf]; done) | (simp [intOf]; omega)
      · gi_wp2
        refine bodyPost_ret (results_none rfl _ _ _) rfl ?_
        exact ⟨⟨_, rfl⟩, .inr ⟨_, ⟨2, by omega, rfl⟩, hJx3⟩⟩
    · obtain rfl : i' = 2 := by omega
      obtain ⟨fn, tmps, assign, body, hy, hR⟩ := hY _ ⟨2, by decide⟩ wr hJs (by decide)
      have hy2 : (Instr.yield l #[.int .i64 2, .int .i64 Z]).run Try.prog wr = .ok (.round l fn tmps assign body) wr := hy
      clear hi hy
      obtain ⟨ix0, ix1, ix2⟩ := idx3 X Y Z wr
      gi_wp2
      refine hR.mono ?_
      rintro e W3 (⟨rfl, hJ3, hk3⟩ | ⟨rfl, hJx3⟩)
      · gi_wp2
        go_roundw
        case rel => exact ⟨3, 3, rfl, rfl, by omega, hJ3⟩
        case measure => first | (simp [intOf]; done) | (simp [intOf]; omega)
      · gi_wp2
        refine bodyPost_ret (results_none rfl _ _ _) rfl ?_
        exact ⟨⟨_, rfl⟩, .inr ⟨_, ⟨3, by omega, rfl⟩, hJx3⟩⟩
    · obtain rfl : i' = 3 := by omega
      clear hi
      gi_wp2
      go_end0
      exact ⟨⟨_, rfl⟩, .inl ⟨_, rfl, hJs⟩⟩
end Go.Proofs.Ytodigegjngnknaa
namespace Go.Proofs.Ytodigegjngnknaa
open Go.RowKit GW NL Go.Shelf
attribute [local go_sem] Oper.semAt_some
theorem getD_set_same {l : List Nat} {i x : Nat} (h : i < l.length) : (l.set i x).getD i 0 = x := by
  rw [List.getD_eq_getElem?_getD, List.getElem?_set_self h]; rfl
theorem drop_set {l : List Nat} {i j x : Nat} (h : i < j) : (l.set i x).drop j = l.drop j := by
  apply List.ext_getElem?
  intro k
  rw [List.getElem?_drop, List.getElem?_drop, List.getElem?_set_ne (by omega)]
/-- what lies in memory between two rounds -/
def SmR (n d : Nat) (l : List Nat) (pre : List (Fin n)) (R : Nat) (out : List Nat) : Prop :=
  out.length = n ∧ Ok out ∧ R < d ∧ (pre = (List.finRange n).reverse.take pre.length → val (out.drop (n - pre.length)) = val (l.drop (n - pre.length)) / d ∧ R = val (l.drop (n - pre.length)) % d)
theorem SmR.start {n d : Nat} {l : List Nat} (h : l.length ≤ n) (hd : 0 < d) : SmR n d l [] 0 (List.replicate n 0) := by
  refine ⟨by simp, Ok.zeros _, hd, fun _ => ?_⟩
  rw [List.length_nil, Nat.sub_zero, List.drop_of_length_le (by simp), List.drop_of_length_le h]
  simp [val]
theorem SmR.next {n d : Nat} {l : List Nat} {pre : List (Fin n)} {R : Nat} {out : List Nat} (hl : Ok l) (hd : d < 4294967296) (h : SmR n d l pre R out) (x : Fin n) (hlt : pre.length < n) :
    SmR n d l (pre ++ [x]) ((R * 4294967296 + l.getD x.val 0) % d) (out.set x.val ((R * 4294967296 + l.getD x.val 0) / d)) := by
  obtain ⟨h1, h2, h3, h4⟩ := h
  have hx := hl.getD x.val
  have hq : (R * 4294967296 + l.getD x.val 0) / d < 4294967296 := by
    apply Nat.div_lt_of_lt_mul
    have := Nat.mul_le_mul_right 4294967296 (Nat.succ_le_of_lt h3)
    rw [Nat.succ_mul] at this
    omega
  refine ⟨by simp [h1], h2.set _ hq, Nat.mod_lt _ (by omega), fun hp => ?_⟩
  rw [List.length_append, List.length_singleton, rev_take hlt] at hp
  obtain ⟨e1, e2⟩ := List.append_inj' hp rfl
  obtain ⟨hv, hr⟩ := h4 e1
  have e3 : (⟨n - 1 - pre.length, by omega⟩ : Fin n) = x := by simpa using e2.symm
  obtain ⟨j, hjn⟩ := x
  have hj : n - 1 - pre.length = j := congrArg Fin.val e3
  dsimp only at hx hq ⊢
  rw [List.length_append, List.length_singleton]
  rw [show n - pre.length = j + 1 by omega] at hv hr
  rw [show n - (pre.length + 1) = j by omega]
  obtain ⟨s1, s2⟩ := small_step (l := l) (k := j) (d := d) (Q := val (out.drop (j + 1))) (R := R) (by omega) hv hr
  refine ⟨?_, s2⟩
  rw [val_drop_getD, getD_set_same (by omega), drop_set (by omega)]
  exact s1
theorem SmR.stop {n d : Nat} {l : List Nat} {R : Nat} {out : List Nat} (h : SmR n d l (List.finRange n).reverse R out) : val out = val l / d ∧ R = val l % d := by
  obtain ⟨h1, h2, h3, h4⟩ := h
  have := h4 (by rw [List.take_of_length_le (Nat.le_refl _)])
  rw [List.length_reverse, List.length_finRange, Nat.sub_self, List.drop_zero, List.drop_zero] at this
  exact this
theorem back_stopsK (F : Fence) (nn : Nat) (h9 : F.fn 117) (hro : F.round = none) (hn : 1 ≤ nn) (Bs n₀ : Nat) (A : Option Addr) (n cap : Nat) (l : List Nat) (hreach : n ≤ 35184372088832) (w : World) (hn₀ : n₀ ≤ w.heap.size)
    (hBs : Bs < w.heap.size) (hc : w.cell? ⟨Bs, 0, none⟩ = some (.slice A n cap)) (hL : LimB n₀ w A n l) :
    SeqStopsK F nn Try.prog 117 #[.pointer (some ⟨Bs, 0, none⟩)] (fun x : Fin n => #[Value.int .i64 ((x.val : Nat) : Int), Value.int .u32 ((l.getD x.val 0 : Nat) : Int)]) (KeepB n₀ Bs) (fun ys => ys = (List.finRange n).reverse)
      (fun pre => ∃ k, k ≤ n ∧ pre = (List.finRange n).reverse.take k) n w := fun lp J Jx W hW _ _ hY h0 => by
  have hc' := (hW.cell (p := ⟨Bs, 0, none⟩) hBs).trans hc
  refine back1_k F nn h9 hro hn lp Bs (KeepB n₀ Bs) (KeepB.refl n₀ Bs) (fun h k => h.trans k) A n cap (fun j => l.getD j 0) hreach (fun {W1 W2} hk => ⟨World.cell?_of_block hk.box, fun b o e j hj => ?_⟩) J Jx hY W hc' (fun h0 => ?_) h0
  · obtain ⟨b', o', e', hb, _⟩ := hL (by omega)
    rw [e] at e'
    cases e'
    exact World.cell?_of_block (hk.old b hb)
  · obtain ⟨b', o', e', hb, h2⟩ := hL h0
    exact ⟨b', o', e', fun j hj => (hW.cell (p := ⟨b', o' + j, none⟩) (Nat.lt_of_lt_of_le hb hn₀)).trans (h2 j hj)⟩
theorem blkF_sub' {w0 : World} {X : List Nat} {M : List Blk} {I : List Frag} (g : G w0 X M I) {b : Nat} {o : Obj} (h : blkF b o ∈ I) : g.w.heap[b]? = some o := g.sub _ h b o (by simp [blkF])
/-- a number in new memory, and a limb -/
def RNU (q r : Nat) (w : World) (e : Ending) (w' : World) : Prop := ∃ A c F, e = .returned (.tuple #[.slice A (limbs q).length c, .int .u32 (r : Int)]) ∧ F.Sl A c (limbs q) ∧ New w w' F
set_option maxRecDepth 100000 in
set_option maxHeartbeats 2000000 in
theorem small_in (A : Option Addr) (c : Nat) (l : List Nat) (d : Nat) (w : World) (h : SlW w A c l) (hl : l.length ≤ 1000000000) (hd : 0 < d) (hd2 : d < 4294967296) :
    CallsIn Fence.wide 8 Try.prog 107 #[.slice A l.length c, .int .u32 d] w (RNU (val l / d) (val l % d) w) := by
  obtain ⟨n, hn⟩ : ∃ n : Nat, l.length = n := ⟨_, rfl⟩
  have hmk := fun w => make_nat n (by omega) w
  rw [hn]
  have hn1 : l.length ≤ n := by omega
  have hn2 : n ≤ l.length := by omega
  have hn3 : n ≤ 1000000000 := by omega
  have HN := Lib.hid hn
  clear hn
  suffices hg : ∀ g : G w [] [] [heapOf w], CallsIn Fence.wide 8 Try.prog 107 #[.slice A n c, .int .u32 d] g.w (RNU (val l / d) (val l % d) w) from hg (G.begin w)
  intro g
  refine callsIn_of_wp_marks Try.func107 rfl trivial ?_ rfl
  simp only [Try.ntmps107, List.size_toArray, List.length_cons, List.length_nil, Nat.reduceAdd, Nat.reduceSub, Array.replicate_succ, Array.replicate_zero, List.push_toArray, List.append_toArray, List.nil_append, List.cons_append]
  gi_wp2_with (first | (with_reducible refine G.any_mark _ ?_; (try generalize Array.size (World.heap (G.w _)) = bk); (try dsimp only [List.set_cons_zero, List.set_cons_succ]); (try clear g); intro g) | (refine ⟨trivial, ?_⟩; gi_at_call 104; refine (back_in Fence.wide (8 - 1) trivial rfl _ _ _ _).mono ?_; rintro e w' ⟨rfl, rfl⟩))
  rename_i dx ob ox rb K hK
  clear hmk
  obtain ⟨g1, hg1⟩ := G.fix g
  rw [hg1]
  clear hg1 g
  have hLB : LimB w.heap.size g1.w A n l := by
    have := (limB_of h).below g1.below
    rwa [HN.out] at this
  have hbs : g1.w.heap[bk]? = some (.cells [Value.slice A n c].toArray 65 (0, 0)) := blkF_sub' g1 (by simp)
  have hbc : g1.w.cell? ⟨bk, 0, none⟩ = some (.slice A n c) := (cell_of_row g1.w bk 0 _ _ _ hbs).trans (by simp)
  have hbl : bk < g1.w.heap.size := (Array.getElem?_eq_some_iff.1 hbs).1
  refine wpIn_rangeFunc_ownG rfl (by omega) (gf := 117) (lb := #[.pointer (some ⟨bk, 0, none⟩)]) rfl trivial (enters_of Try.func117 (by kernel_rfl) rfl)
    (back_stopsK Fence.wide (8 - 1) trivial rfl (by omega) bk w.heap.size A n c l (by omega) g1.w g1.chg.size hbl hbc hLB) KeepB.trans (fun W lb o o' hlb _ _ _ => KeepB.put (Nat.le_trans g1.chg.size hlb) (by omega)) (Below.refl _ _) (fun _ => rfl)
    (fun pre W => ∃ (R : Nat) (out : List Nat), SmR n d l pre R out ∧ ∃ g : G w [] [(rb, 82, [.int .u32 (R : Int)]), (ox, 65, [.slice (some ⟨ob, 0, none⟩) n n]), (ob, 82, u32s out), (dx, 82, [.int .u32 (d : Int)])] [blkF bk (.cells [Value.slice A n c].toArray 65 (0, 0)), heapOf w], W = g.w)
    (fun c pre W => False)
    (fun s W W' row hs hg hr => by
      obtain ⟨R, out, h1, g, rfl⟩ := hs
      obtain ⟨g', e⟩ := g.grown_ex (B := g1.w.heap.size) g1.chg.size (by
        intro f hf k o hk
        rcases List.mem_cons.1 hf with rfl | hf
        · right
          have hb := blkF_at hk
          subst hb
          simp only [blkF, if_true, Option.some.injEq] at hk
          subst hk
          rfl
        · rw [List.mem_singleton.1 hf] at hk
          left
          exact Nat.lt_of_lt_of_le (Frag.lt (heapOf_sub w) hk) g1.chg.size) hg hr
      exact ⟨R, out, h1, g', e⟩)
    (fun c s W W' row hs hg hr => hs)
    ⟨0, List.replicate n 0, SmR.start hn1 hd, g1, rfl⟩
    (fun x => { tmps := #[.slice A n c, .int .u32 d, undef, .pointer (some ⟨dx, 0, none⟩), .slice none 0 0, .int .u32 0, .pointer (some ⟨ox, 0, none⟩), .pointer (some ⟨rb, 0, none⟩), .int .i64 ((x.val : Nat) : Int), .int .u32 ((l.getD x.val 0 : Nat) : Int),
          .slice A n c, .int .i64 n, .slice (some ⟨ob, 0, none⟩) n n, .slice A n c, .func (.func 117) #[] #[.pointer (some ⟨bk, 0, none⟩)], .int .i64 ((x.val : Nat) : Int), .int .u32 ((l.getD x.val 0 : Nat) : Int), undef, undef, undef, undef, undef, undef, undef, undef, undef, undef, undef, undef, undef], defers := [] }) ?assign ?body ?done ?stop
  case assign =>
    intro l x W K hK
    gi_wp2
    exact hK
  case stop => intro D c pre W _ _ h _; exact h.elim
  case body =>
    rintro lp pre x W ⟨R, out, hS, g, rfl⟩ hlt
    refine G.at_rebase g (fun h' => ?_)
    have nx := Lib.hid (hS.next h.ok hd2 x hlt)
    obtain ⟨i, hin⟩ := x
    dsimp only at nx ⊢
    have hR := hS.2.2.1
    have hx := h.ok.getD i
    have hcell := u32s_getD (l := out) (j := i) (by rw [hS.1]; exact hin)
    have CD := Lib.hid (fun w => div32_any R (l.getD i 0) d hR hx hd2 w)
    have hs := Lib.hid (u32s_set out i ((R * 4294967296 + l.getD i 0) / d))
    generalize (R * 4294967296 + l.getD i 0) / d = q2 at *
    generalize (R * 4294967296 + l.getD i 0) % d = r2 at *
    generalize l.getD i 0 = x at *
    generalize out.getD i 0 = z at *
    have hin2 : (i : Int) < (n : Int) := by omega
    clear hlt hLB hbs hbc hbl hS
    gi_wp2_with fail
    refine wpIn_round_held (S := fun W => W.cell? ⟨ox, 0, none⟩ = some (.slice (some ⟨ob, 0, none⟩) n n) ∧ W.cell? ⟨dx, 0, none⟩ = some (.int .u32 (d : Int))) (by kernel_rfl) (by rintro ⟨a, w, h⟩; exact h) (by kernel_rfl) (by constructor <;> go_simp) (fun hHeld => ?_)
    refine wpAnyH_take (i := 0) (v := ?_) rfl (by kernel_rfl) (by kernel_rfl) (by kernel_rfl) (fun _ _ _ h => h) (Or.inl ⟨by rfl, ?_⟩) (by assumption) ?_
    rotate_left 1
    · (intro w hSw; (try dsimp only at hSw); go_simp; (try with_reducible rfl))
    (try simp only [Act.put, List.setIfInBounds_toArray, List.set_cons_zero, List.set_cons_succ])
    refine wpAnyH_take (i := 1) (v := ?_) rfl (by kernel_rfl) (by kernel_rfl) (by kernel_rfl) (fun _ _ _ h => h) (Or.inl ⟨by rfl, ?_⟩) (by assumption) ?_
    rotate_left 1
    · (intro w hSw; (try dsimp only at hSw); go_simp; (try with_reducible rfl))
    (try simp only [Act.put, List.setIfInBounds_toArray, List.set_cons_zero, List.set_cons_succ])
    refine wpAnyH_take (i := 3) (v := ?_) rfl (by kernel_rfl) (by kernel_rfl) (by kernel_rfl) (fun _ _ _ h => h) (Or.inl ⟨by rfl, ?_⟩) (by assumption) ?_
    rotate_left 1
    · (intro w hSw; (try dsimp only at hSw); go_simp; (try with_reducible rfl))
    (try simp only [Act.put, List.setIfInBounds_toArray, List.set_cons_zero, List.set_cons_succ])
    refine wpAnyH_take (i := 4) (v := ?_) rfl (by kernel_rfl) (by kernel_rfl) (by kernel_rfl) (fun _ _ _ h => h) (Or.inl ⟨by rfl, ?_⟩) (by assumption) ?_
    rotate_left 1
    · (intro w hSw; (try dsimp only at hSw); go_simp; (try with_reducible rfl))
    (try simp only [Act.put, List.setIfInBounds_toArray, List.set_cons_zero, List.set_cons_succ])
    refine wpAnyH_ready (rs := [2]) (by kernel_rfl) (by simp) ?_
    refine AllReadyH.cons rfl (fun K hK => ?_) AllReadyH.nil
    go_simp
    refine G.any_mark _ ?_
    clear hHeld
    clear h'
    intro h'
    refine hK.out _ _ (by constructor <;> go_simp) (fun hHeld => ?_)
    clear hK K
    (try simp only [Act.put, List.setIfInBounds_toArray, List.set_cons_zero, List.set_cons_succ])
    refine wpAnyH_ready (rs := [5]) (by kernel_rfl) (by simp) ?_
    refine AllReadyH.cons rfl (fun K hK => ?_) AllReadyH.nil
    go_simp
    refine (CD.out _).mono ?_
    rintro e w' ⟨rfl, hb⟩
    obtain ⟨g1, rfl⟩ := G.call_ex _ hb
    clear hb hHeld
    clear h'
    dsimp only
    refine hK.out _ _ (by constructor <;> go_simp) (fun hHeld => ?_)
    clear hK K
    (try simp only [Act.put, List.setIfInBounds_toArray, List.set_cons_zero, List.set_cons_succ])
    refine wpAnyH_take (i := 6) (v := ?_) rfl (by kernel_rfl) (by kernel_rfl) (by kernel_rfl) (fun _ _ _ h => h) (Or.inl ⟨by rfl, ?_⟩) (by assumption) ?_
    rotate_left 1
    · (intro w hSw; (try dsimp only at hSw); go_simp; (try with_reducible rfl))
    (try simp only [Act.put, List.setIfInBounds_toArray, List.set_cons_zero, List.set_cons_succ])
    refine wpAnyH_take (i := 7) (v := ?_) rfl (by kernel_rfl) (by kernel_rfl) (by kernel_rfl) (fun _ _ _ h => h) (Or.inl ⟨by rfl, ?_⟩) (by assumption) ?_
    rotate_left 1
    · (intro w hSw; (try dsimp only at hSw); go_simp; (try with_reducible rfl))
    (try simp only [Act.put, List.setIfInBounds_toArray, List.set_cons_zero, List.set_cons_succ])
    refine wpAnyH_take (i := 8) (v := ?_) rfl (by kernel_rfl) (by kernel_rfl) (by kernel_rfl) (fun _ _ _ h => h) (Or.inl ⟨by rfl, ?_⟩) (by assumption) ?_
    rotate_left 1
    · (intro w hSw; (try dsimp only at hSw); go_simp; (try with_reducible rfl))
    (try simp only [Act.put, List.setIfInBounds_toArray, List.set_cons_zero, List.set_cons_succ])
    refine wpAnyH_take (i := 9) (v := ?_) rfl (by kernel_rfl) (by kernel_rfl) (by kernel_rfl) (fun _ _ _ h => h) (Or.inl ⟨by rfl, ?_⟩) (by assumption) ?_
    rotate_left 1
    · (intro w hSw; (try dsimp only at hSw); go_simp; (try with_reducible rfl))
    (try simp only [Act.put, List.setIfInBounds_toArray, List.set_cons_zero, List.set_cons_succ])
    refine wpAnyH_ready (rs := [10]) (by kernel_rfl) (by simp) ?_
    refine AllReadyH.cons rfl (fun K hK => ?_) AllReadyH.nil
    go_simp
    refine G.any_mark _ ?_
    clear hHeld g1
    intro g1
    refine hK.out _ _ (by constructor <;> go_simp) (fun hHeld => ?_)
    clear hK K
    (try simp only [Act.put, List.setIfInBounds_toArray, List.set_cons_zero, List.set_cons_succ])
    refine wpAnyH_ready (rs := [11]) (by kernel_rfl) (by simp) ?_
    refine AllReadyH.cons rfl (fun K hK => ?_) AllReadyH.nil
    go_simp
    refine G.any_mark _ ?_
    clear hHeld g1
    intro g1
    refine hK.out _ _ (by constructor <;> go_simp) (fun hHeld => ?_)
    clear hK K
    (try simp only [Act.put, List.setIfInBounds_toArray, List.set_cons_zero, List.set_cons_succ])
    refine wpAnyH_done (by kernel_rfl) ?_ _
    gi_wp2_with fail
    obtain ⟨g2, hg2⟩ := g1.as (by rw [hs.out])
    obtain ⟨g3, hg3⟩ := g.unbase g2 (by simp only [List.map_cons])
    refine ⟨?_, ?_, r2, out.set i q2, nx.out, g3, hg2.trans hg3⟩
    · rw [hg2]; exact (g.keeps g2).from _
    · rw [hg2]; exact g.keepB g2
  case done =>
    rintro D ys W hD rfl ⟨R, out, hS, g, rfl⟩ hK
    obtain ⟨V, hRv⟩ := hS.stop
    have hok := hS.2.1
    have hlen := hS.1
    obtain ⟨g2, hg2⟩ := g.seeD hK rfl
    rw [hg2]
    clear hS hLB hbs hbc hbl
    have VV := Lib.hid V
    have RV := Lib.hid hRv
    clear V hRv
    have CT : Hid (∀ g' : G w [] [(rb, 82, [.int .u32 (R : Int)]), (ox, 65, [.slice (some ⟨ob, 0, none⟩) n n]), (ob, 82, u32s out), (dx, 82, [.int .u32 (d : Int)])] [blkF D (Obj.deferred (some [])), blkF bk (.cells [Value.slice A n c].toArray 65 (0, 0)), heapOf w], Calls Try.prog 80 #[.slice (some ⟨ob, 0, none⟩) n n] g'.w fun e w' => e = .returned (.slice (some ⟨ob, 0, none⟩) (limbs (val out)).length n) ∧ Below g'.w.heap.size g'.w w') := Lib.hid (fun g' => by
      have hsl : SlW g'.w (some ⟨ob, 0, none⟩) n out := (sl_blk (b := ob) (T := 82) (fr := (0, 0)) (c := n) (Nat.le_of_eq hlen) (by omega) hok).at (blkF_sub (g'.own (ob, 82, u32s out) (by simp)))
      have := trim_any (some ⟨ob, 0, none⟩) n out g'.w hsl
      rwa [hlen] at this)
    gi_wp2_with fail
    refine wpIn_wide.2 ?_
    go_region_held3 (fun W => W.cell? ⟨ox, 0, none⟩ = some (.slice (some ⟨ob, 0, none⟩) n n) ∧ W.cell? ⟨rb, 0, none⟩ = some (.int .u32 (R : Int))) (constructor <;> go_simp) ((go_at_call 80; refine (CT.out _).mono ?_; rintro e w1 ⟨rfl, hb⟩; obtain ⟨g3, rfl⟩ := G.call_ex _ hb; clear hb))
    gi_wp2_with fail
    have hK' : g3.w.heap[D]? = some (Obj.deferred (some [])) := blkF_sub' g3 (by simp)
    refine ⟨by simp, .inl ⟨_, _, rfl, run_takeDeferred hK', ?_⟩⟩
    refine ⟨.tuple #[.slice (some ⟨ob, 0, none⟩) (limbs (val out)).length n, .int .u32 (R : Int)], by simp [results, Try.f107, go_sem], ?_⟩
    rw [← RV.out, VV.out]
    refine ⟨_, n, _, rfl, ?_, (g3.give (b := ob) (T := 82) (cs := u32s out) (by simp)).put hK' rfl (Nat.le_trans g1.chg.size hD) ?_⟩
    · have := sl_trim (sl_blk (b := ob) (T := 82) (fr := (0, 0)) (c := n) (Nat.le_of_eq hlen) (by omega) hok)
      rwa [VV.out] at this
    · intro k o hk
      have hb := blkF_at hk
      subst hb
      simp only [blkF, if_true, Option.some.injEq] at hk
      subst hk
      rfl
theorem small_any (A : Option Addr) (c : Nat) (l : List Nat) (d : Nat) (w : World) (h : SlW w A c l) (hl : l.length ≤ 1000000000) (hd : 0 < d) (hd2 : d < 4294967296) :
    Calls Try.prog 107 #[.slice A l.length c, .int .u32 d] w (RNU (val l / d) (val l % d) w) := callsIn_wide.1 (small_in A c l d w h hl hd hd2)
end Go.Proofs.Ytodigegjngnknaa
namespace Go.Proofs.Ytodigegjngnknaa
open Go.RowKit GW NL Go.Shelf
attribute [local go_sem] Oper.semAt_some
theorem coord_in (F : Fence) (nn : Nat) (h5 : F.fn 44) (hro : F.round = none) (X Y Z : Int) (w : World) :
    CallsIn F nn Try.prog 44 #[.agg #[.int .i64 X, .int .i64 Y, .int .i64 Z]] w fun e w' => e = .returned (.func (.func 72) #[] #[.pointer (some ⟨w.heap.size, 0, none⟩)]) ∧ w' = w.alloc (.cells #[.int .i64 X, .int .i64 Y, .int .i64 Z] 55) := by
  refine callsIn_of_wp Try.func44 rfl h5 ?_ hro
  simp only [Try.ntmps44, List.size_toArray, List.length_cons, List.length_nil, Nat.reduceAdd, Nat.reduceSub, Array.replicate_succ, Array.replicate_zero, List.push_toArray, List.append_toArray, List.nil_append, List.cons_append]
  gi_wp2
  go_ret
  exact ⟨rfl, rfl⟩
theorem coord_stopsK (F : Fence) (nn : Nat) (h9 : F.fn 72) (hro : F.round = none) (hn : 1 ≤ nn) (Bs : Nat) (X Y Z : Int) (Kp : World → World → Prop) (w : World)
    (hBs : Bs < w.heap.size) (h1 : w.cell? ⟨Bs, 0, none⟩ = some (.int .i64 X)) (h2 : w.cell? ⟨Bs, 1, none⟩ = some (.int .i64 Y)) (h3 : w.cell? ⟨Bs, 2, none⟩ = some (.int .i64 Z)) :
    SeqStopsK F nn Try.prog 72 #[.pointer (some ⟨Bs, 0, none⟩)] (fun x : Fin 3 => #[Value.int .i64 ((x.val : Nat) : Int), Value.int .i64 (co X Y Z x.val)]) Kp (fun ys => ys = List.finRange 3)
      (fun pre => ∃ k, k ≤ 3 ∧ pre = (List.finRange 3).take k) 3 w := fun lp J Jx W hW _ _ hY h0 =>
  coord1_in F nn h9 hro hn lp Bs X Y Z Kp J Jx hY W ((hW.cell (p := ⟨Bs, 0, none⟩) hBs).trans h1) ((hW.cell (p := ⟨Bs, 1, none⟩) hBs).trans h2) ((hW.cell (p := ⟨Bs, 2, none⟩) hBs).trans h3) h0
/-- a number's size is at most m -/
def In (m x : Int) : Prop := -m ≤ x ∧ x ≤ m
instance (m x : Int) : Decidable (In m x) := inferInstanceAs (Decidable (_ ∧ _))
def In3 (m X Y Z : Int) : Prop := In m X ∧ In m Y ∧ In m Z
instance (m X Y Z : Int) : Decidable (In3 m X Y Z) := inferInstanceAs (Decidable (_ ∧ _ ∧ _))
theorem in3_of (m X Y Z : Int) (h : ∀ p : Fin 3, p ∈ List.finRange 3 → In m (co X Y Z p.val)) : In3 m X Y Z :=
  ⟨h (0 : Fin 3) (by simp), h (1 : Fin 3) (by simp), h (2 : Fin 3) (by simp)⟩
theorem not_in3 (m X Y Z : Int) (p : Fin 3) (h : ¬ In m (co X Y Z p.val)) : ¬ In3 m X Y Z := by
  rintro ⟨h1, h2, h3⟩
  obtain ⟨k, hk⟩ := p
  have : k = 0 ∨ k = 1 ∨ k = 2 := by omega
  rcases this with rfl | rfl | rfl
  · exact h h1
  · exact h h2
  · exact h h3
theorem cells_ok {w : World} {B bk : Nat} {cs : Array Value} {T : TypeId} {fr : Nat × Nat} (h : w.heap.size ≤ B) : ∀ f ∈ [blkF bk (.cells cs T fr), heapOf w], ∀ k o, f k = some o → k < B ∨ o.isCells = true := by
  intro f hf k o hk
  rcases List.mem_cons.1 hf with rfl | hf
  · right
    have hb := blkF_at hk
    subst hb
    simp only [blkF, if_true, Option.some.injEq] at hk
    subst hk
    rfl
  · rw [List.mem_singleton.1 hf] at hk
    left
    exact Nat.lt_of_lt_of_le (Frag.lt (heapOf_sub w) hk) h
set_option maxRecDepth 100000 in
set_option maxHeartbeats 2000000 in
theorem within_in (X Y Z m : Int) (hm : 0 ≤ m) (hm2 : m ≤ 1000000000000) (w : World) :
    CallsIn Fence.wide 8 Try.prog 52 #[.agg #[.int .i64 X, .int .i64 Y, .int .i64 Z], .int .i64 m] w fun e W' => e = .returned (.bool (decide (In3 m X Y Z))) ∧ Below w.heap.size w W' := by
  have hwm : IntKind.i64.wrap (-m) = -m := by rw [IntKind.wrap_i64]; omega
  have HM := Lib.hid (And.intro hm hm2)
  clear hm hm2
  suffices hg : ∀ g : G w [] [] [heapOf w], CallsIn Fence.wide 8 Try.prog 52 #[.agg #[.int .i64 X, .int .i64 Y, .int .i64 Z], .int .i64 m] g.w fun e W' => e = .returned (.bool (decide (In3 m X Y Z))) ∧ Below w.heap.size w W' from hg (G.begin w)
  intro g
  refine callsIn_of_wp_marks Try.func52 rfl trivial ?_ rfl
  simp only [Try.ntmps52, List.size_toArray, List.length_cons, List.length_nil, Nat.reduceAdd, Nat.reduceSub, Array.replicate_succ, Array.replicate_zero, List.push_toArray, List.append_toArray, List.nil_append, List.cons_append]
  gi_wp2_with (first | (with_reducible refine G.any_mark _ ?_; (try generalize Array.size (World.heap (G.w _)) = bk); (try dsimp only [List.set_cons_zero, List.set_cons_succ]); (try clear g); intro g) | (refine ⟨trivial, ?_⟩; gi_at_call 44; refine (coord_in Fence.wide (8 - 1) trivial rfl _ _ _ _).mono ?_; rintro e w' ⟨rfl, rfl⟩))
  rename_i px mx K hK rb
  obtain ⟨g1, hg1⟩ := G.fix g
  rw [hg1]
  clear hg1 g
  have hbs : g1.w.heap[bk]? = some (.cells [Value.int .i64 X, Value.int .i64 Y, Value.int .i64 Z].toArray 55 (0, 0)) := blkF_sub' g1 (by simp)
  have hb0 : g1.w.cell? ⟨bk, 0, none⟩ = some (.int .i64 X) := (cell_of_row g1.w bk 0 _ _ _ hbs).trans (by simp)
  have hb1 : g1.w.cell? ⟨bk, 1, none⟩ = some (.int .i64 Y) := (cell_of_row g1.w bk 1 _ _ _ hbs).trans (by simp)
  have hb2 : g1.w.cell? ⟨bk, 2, none⟩ = some (.int .i64 Z) := (cell_of_row g1.w bk 2 _ _ _ hbs).trans (by simp)
  have hbl : bk < g1.w.heap.size := (Array.getElem?_eq_some_iff.1 hbs).1
  refine wpIn_rangeFunc_ownG rfl (by omega) (gf := 72) (lb := #[.pointer (some ⟨bk, 0, none⟩)]) rfl trivial (enters_of Try.func72 (by kernel_rfl) rfl)
    (coord_stopsK Fence.wide (8 - 1) trivial rfl (by omega) bk X Y Z (fun _ _ => True) g1.w hbl hb0 hb1 hb2) (fun _ _ => trivial) (fun _ _ _ _ _ _ _ _ => trivial) (Below.refl _ _) (fun _ => rfl)
    (fun pre W => (∀ p : Fin 3, p ∈ pre → In m (co X Y Z p.val)) ∧ ∃ g : G w [] [(rb, 4, [.bool false]), (mx, 3, [.int .i64 m]), (px, 55, [.int .i64 X, .int .i64 Y, .int .i64 Z])] [blkF bk (.cells [Value.int .i64 X, Value.int .i64 Y, Value.int .i64 Z].toArray 55 (0, 0)), heapOf w], W = g.w)
    (fun c pre W => c = .ret ∧ (∃ p : Fin 3, ¬ In m (co X Y Z p.val)) ∧ ∃ g : G w [] [(rb, 4, [.bool false]), (mx, 3, [.int .i64 m]), (px, 55, [.int .i64 X, .int .i64 Y, .int .i64 Z])] [blkF bk (.cells [Value.int .i64 X, Value.int .i64 Y, Value.int .i64 Z].toArray 55 (0, 0)), heapOf w], W = g.w)
    (fun s W W' row hs hg hr => by
      obtain ⟨h1, g, rfl⟩ := hs
      obtain ⟨g', e⟩ := g.grown_ex (B := g1.w.heap.size) g1.chg.size (cells_ok g1.chg.size) hg hr
      exact ⟨h1, g', e⟩)
    (fun c s W W' row hs hg hr => by
      obtain ⟨h0, h1, g, rfl⟩ := hs
      obtain ⟨g', e⟩ := g.grown_ex (B := g1.w.heap.size) g1.chg.size (cells_ok g1.chg.size) hg hr
      exact ⟨h0, h1, g', e⟩)
    ⟨by simp, g1, rfl⟩
    (fun x => { tmps := #[.agg #[.int .i64 X, .int .i64 Y, .int .i64 Z], .int .i64 m, .pointer (some ⟨px, 0, none⟩), .pointer (some ⟨mx, 0, none⟩), .pointer (some ⟨rb, 0, none⟩), undef, .int .i64 (co X Y Z x.val), .agg #[.int .i64 X, .int .i64 Y, .int .i64 Z], .func (.func 72) #[] #[.pointer (some ⟨bk, 0, none⟩)], .int .i64 ((x.val : Nat) : Int), .int .i64 (co X Y Z x.val), undef, undef, undef, undef, undef, undef, undef, undef, undef], defers := [] }) ?assign ?body ?done ?stop
  case assign =>
    intro l x W K hK
    gi_wp2
    exact hK
  case body =>
    rintro lp pre x W ⟨hp, g, rfl⟩ hlt
    refine G.at_rebase g (fun h' => ?_)
    obtain ⟨y, hy⟩ : ∃ y, co X Y Z x.val = y := ⟨_, rfl⟩
    have HY := Lib.hid hy
    rw [hy]
    by_cases h1 : y < -m
    · gi_wp2_with fail
      refine G.any_mark _ ?_
      (try dsimp only [List.set_cons_zero])
      intro g2
      obtain ⟨g3, hg3⟩ := g.unbase g2 rfl
      exact ⟨(g.keeps g2).from _, rfl, ⟨x, by rw [HY.out]; intro h; have := h.1; have := h.2; omega⟩, g3, hg3⟩
    · by_cases h2 : m < y
      · gi_wp2_with fail
        refine G.any_mark _ ?_
        (try dsimp only [List.set_cons_zero])
        intro g2
        obtain ⟨g3, hg3⟩ := g.unbase g2 rfl
        exact ⟨(g.keeps g2).from _, rfl, ⟨x, by rw [HY.out]; intro h; have := h.1; have := h.2; omega⟩, g3, hg3⟩
      · gi_wp2_with fail
        obtain ⟨g3, hg3⟩ := g.unbase h' rfl
        exact ⟨(g.keeps h').from _, trivial, fun p hp' => (List.mem_append.1 hp').elim (hp p) (fun e => by obtain rfl := List.mem_singleton.1 e; rw [HY.out]; exact ⟨h1, h2⟩), g3, hg3⟩
  case done =>
    rintro D ys W hD rfl ⟨hp, g, rfl⟩ hK
    obtain ⟨g2, hg2⟩ := g.seeD hK rfl
    rw [hg2]
    have hin := in3_of m X Y Z hp
    gi_wp2_with fail
    refine G.any_mark _ ?_
    (try dsimp only [List.set_cons_zero])
    intro g3
    have hK' : g3.w.heap[D]? = some (Obj.deferred (some [])) := blkF_sub' g3 (by simp)
    refine ⟨by simp, .inl ⟨_, _, rfl, run_takeDeferred hK', ?_⟩⟩
    have hc5 := cell_kept (show g3.w.cell? ⟨rb, 0, none⟩ = some (.bool true) by simp [go_sem]) (grownBy_putObj' _ D (.deferred none)) (fun r e => by cases e; exact ⟨_, hK', rfl⟩)
    refine ⟨.bool true, by simp [results, Try.f52, go_sem, hc5], by rw [decide_eq_true hin], ?_⟩
    exact g3.below.grown (grownBy_putObj' _ D _) (by have := g3.chg.size; omega) (fun k e => by cases e; exact Nat.le_trans g1.chg.size hD)
  case stop =>
    rintro D c pre W hD ⟨k, hk, rfl⟩ ⟨rfl, ⟨p, hno⟩, g, rfl⟩ hK
    obtain ⟨g2, hg2⟩ := g.seeD hK rfl
    rw [hg2]
    have hin := not_in3 m X Y Z p hno
    gi_wp2_with fail
    obtain ⟨g3, hg3⟩ : ∃ g3, g3 = g2 := ⟨_, rfl⟩
    rw [← hg3]
    have hK' : g3.w.heap[D]? = some (Obj.deferred (some [])) := blkF_sub' g3 (by simp)
    refine ⟨by simp, .inl ⟨_, _, rfl, run_takeDeferred hK', ?_⟩⟩
    have hc5 := cell_kept (show g3.w.cell? ⟨rb, 0, none⟩ = some (.bool false) by simp [go_sem]) (grownBy_putObj' _ D (.deferred none)) (fun r e => by cases e; exact ⟨_, hK', rfl⟩)
    refine ⟨.bool false, by simp [results, Try.f52, go_sem, hc5], by rw [decide_eq_false hin], ?_⟩
    exact g3.below.grown (grownBy_putObj' _ D _) (by have := g3.chg.size; omega) (fun k e => by cases e; exact Nat.le_trans g1.chg.size hD)
theorem within_any (X Y Z m : Int) (hm : 0 ≤ m) (hm2 : m ≤ 1000000000000) (w : World) :
    Calls Try.prog 52 #[.agg #[.int .i64 X, .int .i64 Y, .int .i64 Z], .int .i64 m] w fun e W' => e = .returned (.bool (decide (In3 m X Y Z))) ∧ Below w.heap.size w W' := callsIn_wide.1 (within_in X Y Z m hm hm2 w)
end Go.Proofs.Ytodigegjngnknaa
namespace Go.Proofs.Ytodigegjngnknaa
open Go.RowKit GW NL
theorem G.oldc {w0 : World} {M : List Blk} {I : List Frag} (g : G w0 [] M I) {a : Addr} {v : Value} (h : w0.cell? a = some v) : g.w.cell? a = some v := (g.below.cell (World.block_lt_of_cell? w0 _ h)).trans h
/-- what near says -/
def nearE (a : Bool) : Int := if a then 0 else 2
set_option maxRecDepth 20000 in
theorem near1_any (b : Nat) (X Y Z : Int) (w : World) (h0 : w.cell? ⟨b, 0, none⟩ = some (.int .i64 X)) (h1 : w.cell? ⟨b, 1, none⟩ = some (.int .i64 Y)) (h2 : w.cell? ⟨b, 2, none⟩ = some (.int .i64 Z)) :
    Calls Try.prog 34 #[.slice (some ⟨b, 0, none⟩) 1 1] w fun e w' => e = .returned (.int .i64 (nearE (decide (In3 100000000000 X Y Z)))) ∧ Below w.heap.size w w' := by
  have C := Lib.hid (fun X Y Z w => within_any X Y Z 100000000000 (by decide) (by decide) w)
  refine calls_b fun g => ?_
  obtain ⟨p0, hp0⟩ : ∃ p, decide (In3 100000000000 X Y Z) = p := ⟨_, rfl⟩
  rw [hp0]
  have C0 := Lib.hid (fun w => C.out X Y Z w)
  rw [hp0] at C0
  clear hp0
  clear C
  go_enter Try.func34, Try.ntmps34
  go_wp2_with (with_reducible refine G.any_mark _ ?_; (try generalize Array.size (World.heap (G.w _)) = bk); (try dsimp only [List.set_cons_zero, List.set_cons_succ]); (try clear g); intro g)
  go_loopw [7] (fun i wr => (∃ g : G w [] [] [heapOf w], wr = g.w) ∧ ((i = .int .i64 0) ∨ (i = .int .i64 1 ∧ p0 = true))) (fun i _ => 1 - (intOf i).toNat)
  case atStart => exact ⟨⟨g, rfl⟩, .inl rfl⟩
  case round =>
    clear g
    obtain ⟨⟨g, rfl⟩, hi⟩ := hrel
    rcases hi with rfl | ⟨rfl, q0⟩
    · have e0 := G.oldc g h0
      have e1 := G.oldc g h1
      have e2 := G.oldc g h2
      clear h0 h1 h2
      go_wp2_with (with_reducible refine G.any_mark _ ?_; (try generalize Array.size (World.heap (G.w _)) = bk); (try dsimp only [List.set_cons_zero, List.set_cons_succ]); (try clear g); intro g)
      refine (C0.out _).mono ?_
      rintro e w1 ⟨rfl, hb⟩
      obtain ⟨g1, rfl⟩ := G.call_ex _ hb
      clear hb
      (try clear g)
      revert g1
      intro g
      cases p0
      · go_wp2_with (with_reducible refine G.any_mark _ ?_; (try generalize Array.size (World.heap (G.w _)) = bk); (try dsimp only [List.set_cons_zero, List.set_cons_succ]); (try clear g); intro g)
        go_ret
        exact ⟨by simp [nearE], G.below _⟩
      · go_wp2_with (with_reducible refine G.any_mark _ ?_; (try generalize Array.size (World.heap (G.w _)) = bk); (try dsimp only [List.set_cons_zero, List.set_cons_succ]); (try clear g); intro g)
        obtain ⟨g2, hg2⟩ := G.less g (M' := []) (List.nil_sublist _)
        exact ⟨⟨⟨g2, hg2⟩, by simp⟩, by simp [intOf]⟩
    · subst q0
      go_wp2_with (with_reducible refine G.any_mark _ ?_; (try generalize Array.size (World.heap (G.w _)) = bk); (try dsimp only [List.set_cons_zero, List.set_cons_succ]); (try clear g); intro g)
      go_ret
      exact ⟨rfl, G.below _⟩
set_option maxRecDepth 20000 in
theorem near2_any (b : Nat) (X Y Z U V W : Int) (w : World) (h0 : w.cell? ⟨b, 0, none⟩ = some (.int .i64 X)) (h1 : w.cell? ⟨b, 1, none⟩ = some (.int .i64 Y)) (h2 : w.cell? ⟨b, 2, none⟩ = some (.int .i64 Z)) (h3 : w.cell? ⟨b, 3, none⟩ = some (.int .i64 U)) (h4 : w.cell? ⟨b, 4, none⟩ = some (.int .i64 V)) (h5 : w.cell? ⟨b, 5, none⟩ = some (.int .i64 W)) :
    Calls Try.prog 34 #[.slice (some ⟨b, 0, none⟩) 2 2] w fun e w' => e = .returned (.int .i64 (nearE (decide (In3 100000000000 X Y Z) && decide (In3 100000000000 U V W)))) ∧ Below w.heap.size w w' := by
  have C := Lib.hid (fun X Y Z w => within_any X Y Z 100000000000 (by decide) (by decide) w)
  refine calls_b fun g => ?_
  obtain ⟨p0, hp0⟩ : ∃ p, decide (In3 100000000000 X Y Z) = p := ⟨_, rfl⟩
  rw [hp0]
  have C0 := Lib.hid (fun w => C.out X Y Z w)
  rw [hp0] at C0
  clear hp0
  obtain ⟨p1, hp1⟩ : ∃ p, decide (In3 100000000000 U V W) = p := ⟨_, rfl⟩
  rw [hp1]
  have C1 := Lib.hid (fun w => C.out U V W w)
  rw [hp1] at C1
  clear hp1
  clear C
  go_enter Try.func34, Try.ntmps34
  go_wp2_with (with_reducible refine G.any_mark _ ?_; (try generalize Array.size (World.heap (G.w _)) = bk); (try dsimp only [List.set_cons_zero, List.set_cons_succ]); (try clear g); intro g)
  go_loopw [7] (fun i wr => (∃ g : G w [] [] [heapOf w], wr = g.w) ∧ ((i = .int .i64 0) ∨ (i = .int .i64 1 ∧ p0 = true) ∨ (i = .int .i64 2 ∧ p0 = true ∧ p1 = true))) (fun i _ => 2 - (intOf i).toNat)
  case atStart => exact ⟨⟨g, rfl⟩, .inl rfl⟩
  case round =>
    clear g
    obtain ⟨⟨g, rfl⟩, hi⟩ := hrel
    rcases hi with rfl | ⟨rfl, q0⟩ | ⟨rfl, q0, q1⟩
    · have e0 := G.oldc g h0
      have e1 := G.oldc g h1
      have e2 := G.oldc g h2
      clear h0 h1 h2 h3 h4 h5
      go_wp2_with (with_reducible refine G.any_mark _ ?_; (try generalize Array.size (World.heap (G.w _)) = bk); (try dsimp only [List.set_cons_zero, List.set_cons_succ]); (try clear g); intro g)
      refine (C0.out _).mono ?_
      rintro e w1 ⟨rfl, hb⟩
      obtain ⟨g1, rfl⟩ := G.call_ex _ hb
      clear hb
      (try clear g)
      revert g1
      intro g
      cases p0
      · go_wp2_with (with_reducible refine G.any_mark _ ?_; (try generalize Array.size (World.heap (G.w _)) = bk); (try dsimp only [List.set_cons_zero, List.set_cons_succ]); (try clear g); intro g)
        go_ret
        exact ⟨by simp [nearE], G.below _⟩
      · go_wp2_with (with_reducible refine G.any_mark _ ?_; (try generalize Array.size (World.heap (G.w _)) = bk); (try dsimp only [List.set_cons_zero, List.set_cons_succ]); (try clear g); intro g)
        obtain ⟨g2, hg2⟩ := G.less g (M' := []) (List.nil_sublist _)
        exact ⟨⟨⟨g2, hg2⟩, by simp⟩, by simp [intOf]⟩
    · have e0 := G.oldc g h3
      have e1 := G.oldc g h4
      have e2 := G.oldc g h5
      clear h0 h1 h2 h3 h4 h5
      go_wp2_with (with_reducible refine G.any_mark _ ?_; (try generalize Array.size (World.heap (G.w _)) = bk); (try dsimp only [List.set_cons_zero, List.set_cons_succ]); (try clear g); intro g)
      refine (C1.out _).mono ?_
      rintro e w1 ⟨rfl, hb⟩
      obtain ⟨g1, rfl⟩ := G.call_ex _ hb
      clear hb
      (try clear g)
      revert g1
      intro g
      cases p1
      · go_wp2_with (with_reducible refine G.any_mark _ ?_; (try generalize Array.size (World.heap (G.w _)) = bk); (try dsimp only [List.set_cons_zero, List.set_cons_succ]); (try clear g); intro g)
        go_ret
        exact ⟨by simp [nearE, q0], G.below _⟩
      · go_wp2_with (with_reducible refine G.any_mark _ ?_; (try generalize Array.size (World.heap (G.w _)) = bk); (try dsimp only [List.set_cons_zero, List.set_cons_succ]); (try clear g); intro g)
        obtain ⟨g2, hg2⟩ := G.less g (M' := []) (List.nil_sublist _)
        exact ⟨⟨⟨g2, hg2⟩, by simp [q0]⟩, by simp [intOf]⟩
    · subst q0
      subst q1
      go_wp2_with (with_reducible refine G.any_mark _ ?_; (try generalize Array.size (World.heap (G.w _)) = bk); (try dsimp only [List.set_cons_zero, List.set_cons_succ]); (try clear g); intro g)
      go_ret
      exact ⟨rfl, G.below _⟩
theorem less_any (X Y Z U V W : Int) (a b c : Int) (w : World) (h1 : X - U = a) (h2 : Y - V = b) (h3 : Z - W = c) (b1 : IntKind.i64.wrap a = a) (b2 : IntKind.i64.wrap b = b) (b3 : IntKind.i64.wrap c = c) :
    Calls Try.prog 36 #[.agg #[.int .i64 X, .int .i64 Y, .int .i64 Z], .agg #[.int .i64 U, .int .i64 V, .int .i64 W]] w fun e w' => e = .returned (.agg #[.int .i64 a, .int .i64 b, .int .i64 c]) ∧ Below w.heap.size w w' := by
  refine calls_g fun g => ?_
  go_enter Try.func36, Try.ntmps36
  go_wp2_with (with_reducible refine G.any_mark _ ?_; (try generalize Array.size (World.heap (G.w _)) = bk); (try dsimp only [List.set_cons_zero, List.set_cons_succ]); (try clear g); intro g)
  exact bodyPost_ret (v := .agg #[.int .i64 a, .int .i64 b, .int .i64 c]) (by simp [results, Try.f36, go_sem]) rfl ⟨rfl, G.below _⟩
theorem rless_any (X Y Z U V W : Int) (a b c : Int) (w : World) (h1 : X - U = a) (h2 : Y - V = b) (h3 : Z - W = c) (b1 : IntKind.i64.wrap a = a) (b2 : IntKind.i64.wrap b = b) (b3 : IntKind.i64.wrap c = c) :
    Calls Try.prog 61 #[.agg #[.int .i64 X, .int .i64 Y, .int .i64 Z], .agg #[.int .i64 U, .int .i64 V, .int .i64 W]] w fun e w' => e = .returned (.agg #[.int .i64 a, .int .i64 b, .int .i64 c]) ∧ Below w.heap.size w w' := by
  refine calls_g fun g => ?_
  go_enter Try.func61, Try.ntmps61
  go_wp2_with (with_reducible refine G.any_mark _ ?_; (try generalize Array.size (World.heap (G.w _)) = bk); (try dsimp only [List.set_cons_zero, List.set_cons_succ]); (try clear g); intro g)
  exact bodyPost_ret (v := .agg #[.int .i64 a, .int .i64 b, .int .i64 c]) (by simp [results, Try.f61, go_sem]) rfl ⟨rfl, G.below _⟩
theorem rwithin_any (x m : Int) (hm : 0 ≤ m) (hm2 : m ≤ 1000000000000) (w : World) :
    Calls Try.prog 43 #[.int .i64 x, .int .i64 m] w fun e w' => e = .returned (.bool (decide (In m x))) ∧ Below w.heap.size w w' := by
  have hwm : IntKind.i64.wrap (-m) = -m := by rw [IntKind.wrap_i64]; omega
  refine calls_g fun g => ?_
  clear hm hm2
  by_cases h1 : -m ≤ x
  · by_cases h2 : x ≤ m
    · rw [decide_eq_true (show In m x from ⟨h1, h2⟩)]
      go_enter Try.func43, Try.ntmps43
      go_wp2_with (with_reducible refine G.any_mark _ ?_; (try generalize Array.size (World.heap (G.w _)) = bk); (try dsimp only [List.set_cons_zero, List.set_cons_succ]); (try clear g); intro g)
      go_ret
      exact ⟨rfl, G.below _⟩
    · rw [decide_eq_false (show ¬ In m x from fun h => h2 h.2)]
      go_enter Try.func43, Try.ntmps43
      go_wp2_with (with_reducible refine G.any_mark _ ?_; (try generalize Array.size (World.heap (G.w _)) = bk); (try dsimp only [List.set_cons_zero, List.set_cons_succ]); (try clear g); intro g)
      go_ret
      exact ⟨rfl, G.below _⟩
  · rw [decide_eq_false (show ¬ In m x from fun h => h1 h.1)]
    go_enter Try.func43, Try.ntmps43
    go_wp2_with (with_reducible refine G.any_mark _ ?_; (try generalize Array.size (World.heap (G.w _)) = bk); (try dsimp only [List.set_cons_zero, List.set_cons_succ]); (try clear g); intro g)
    go_ret
    exact ⟨rfl, G.below _⟩
theorem rnear_any (X Y Z : Int) (w : World) :
    Calls Try.prog 18 #[.agg #[.int .i64 X, .int .i64 Y, .int .i64 Z]] w fun e w' => e = .returned (.bool (decide (In3 100000000000 X Y Z))) ∧ Below w.heap.size w w' := by
  have C := Lib.hid (fun x w => rwithin_any x 100000000000 (by decide) (by decide) w)
  refine calls_g fun g => ?_
  by_cases h1 : In 100000000000 X
  · by_cases h2 : In 100000000000 Y
    · by_cases h3 : In 100000000000 Z
      · rw [decide_eq_true (show In3 100000000000 X Y Z from ⟨h1, h2, h3⟩)]
        have C1 := Lib.hid (fun w => C.out X w)
        have C2 := Lib.hid (fun w => C.out Y w)
        have C3 := Lib.hid (fun w => C.out Z w)
        rw [decide_eq_true h1] at C1
        rw [decide_eq_true h2] at C2
        rw [decide_eq_true h3] at C3
        clear h1 h2 h3 C
        go_enter Try.func18, Try.ntmps18
        go_wp2_with (with_reducible refine G.any_mark _ ?_; (try generalize Array.size (World.heap (G.w _)) = bk); (try dsimp only [List.set_cons_zero, List.set_cons_succ]); (try clear g); intro g)
        refine (C1.out _).mono ?_
        rintro e w1 ⟨rfl, hb⟩
        obtain ⟨g1, rfl⟩ := G.call_ex _ hb
        clear hb
        (try clear g)
        revert g1
        intro g
        go_wp2_with (with_reducible refine G.any_mark _ ?_; (try generalize Array.size (World.heap (G.w _)) = bk); (try dsimp only [List.set_cons_zero, List.set_cons_succ]); (try clear g); intro g)
        refine (C2.out _).mono ?_
        rintro e w1 ⟨rfl, hb⟩
        obtain ⟨g1, rfl⟩ := G.call_ex _ hb
        clear hb
        (try clear g)
        revert g1
        intro g
        go_wp2_with (with_reducible refine G.any_mark _ ?_; (try generalize Array.size (World.heap (G.w _)) = bk); (try dsimp only [List.set_cons_zero, List.set_cons_succ]); (try clear g); intro g)
        refine (C3.out _).mono ?_
        rintro e w1 ⟨rfl, hb⟩
        obtain ⟨g1, rfl⟩ := G.call_ex _ hb
        clear hb
        (try clear g)
        revert g1
        intro g
        go_wp2_with (with_reducible refine G.any_mark _ ?_; (try generalize Array.size (World.heap (G.w _)) = bk); (try dsimp only [List.set_cons_zero, List.set_cons_succ]); (try clear g); intro g)
        go_ret
        exact ⟨rfl, G.below _⟩
      · rw [decide_eq_false (show ¬ In3 100000000000 X Y Z from fun h => h3 h.2.2)]
        have C1 := Lib.hid (fun w => C.out X w)
        have C2 := Lib.hid (fun w => C.out Y w)
        have C3 := Lib.hid (fun w => C.out Z w)
        rw [decide_eq_true h1] at C1
        rw [decide_eq_true h2] at C2
        rw [decide_eq_false h3] at C3
        clear h1 h2 h3 C
        go_enter Try.func18, Try.ntmps18
        go_wp2_with (with_reducible refine G.any_mark _ ?_; (try generalize Array.size (World.heap (G.w _)) = bk); (try dsimp only [List.set_cons_zero, List.set_cons_succ]); (try clear g); intro g)
        refine (C1.out _).mono ?_
        rintro e w1 ⟨rfl, hb⟩
        obtain ⟨g1, rfl⟩ := G.call_ex _ hb
        clear hb
        (try clear g)
        revert g1
        intro g
        go_wp2_with (with_reducible refine G.any_mark _ ?_; (try generalize Array.size (World.heap (G.w _)) = bk); (try dsimp only [List.set_cons_zero, List.set_cons_succ]); (try clear g); intro g)
        refine (C2.out _).mono ?_
        rintro e w1 ⟨rfl, hb⟩
        obtain ⟨g1, rfl⟩ := G.call_ex _ hb
        clear hb
        (try clear g)
        revert g1
        intro g
        go_wp2_with (with_reducible refine G.any_mark _ ?_; (try generalize Array.size (World.heap (G.w _)) = bk); (try dsimp only [List.set_cons_zero, List.set_cons_succ]); (try clear g); intro g)
        refine (C3.out _).mono ?_
        rintro e w1 ⟨rfl, hb⟩
        obtain ⟨g1, rfl⟩ := G.call_ex _ hb
        clear hb
        (try clear g)
        revert g1
        intro g
        go_wp2_with (with_reducible refine G.any_mark _ ?_; (try generalize Array.size (World.heap (G.w _)) = bk); (try dsimp only [List.set_cons_zero, List.set_cons_succ]); (try clear g); intro g)
        go_ret
        exact ⟨rfl, G.below _⟩
    · rw [decide_eq_false (show ¬ In3 100000000000 X Y Z from fun h => h2 h.2.1)]
      have C1 := Lib.hid (fun w => C.out X w)
      have C2 := Lib.hid (fun w => C.out Y w)
      rw [decide_eq_true h1] at C1
      rw [decide_eq_false h2] at C2
      clear h1 h2 C
      go_enter Try.func18, Try.ntmps18
      go_wp2_with (with_reducible refine G.any_mark _ ?_; (try generalize Array.size (World.heap (G.w _)) = bk); (try dsimp only [List.set_cons_zero, List.set_cons_succ]); (try clear g); intro g)
      refine (C1.out _).mono ?_
      rintro e w1 ⟨rfl, hb⟩
      obtain ⟨g1, rfl⟩ := G.call_ex _ hb
      clear hb
      (try clear g)
      revert g1
      intro g
      go_wp2_with (with_reducible refine G.any_mark _ ?_; (try generalize Array.size (World.heap (G.w _)) = bk); (try dsimp only [List.set_cons_zero, List.set_cons_succ]); (try clear g); intro g)
      refine (C2.out _).mono ?_
      rintro e w1 ⟨rfl, hb⟩
      obtain ⟨g1, rfl⟩ := G.call_ex _ hb
      clear hb
      (try clear g)
      revert g1
      intro g
      go_wp2_with (with_reducible refine G.any_mark _ ?_; (try generalize Array.size (World.heap (G.w _)) = bk); (try dsimp only [List.set_cons_zero, List.set_cons_succ]); (try clear g); intro g)
      go_ret
      exact ⟨rfl, G.below _⟩
  · rw [decide_eq_false (show ¬ In3 100000000000 X Y Z from fun h => h1 h.1)]
    have C1 := Lib.hid (fun w => C.out X w)
    rw [decide_eq_false h1] at C1
    clear h1 C
    go_enter Try.func18, Try.ntmps18
    go_wp2_with (with_reducible refine G.any_mark _ ?_; (try generalize Array.size (World.heap (G.w _)) = bk); (try dsimp only [List.set_cons_zero, List.set_cons_succ]); (try clear g); intro g)
    refine (C1.out _).mono ?_
    rintro e w1 ⟨rfl, hb⟩
    obtain ⟨g1, rfl⟩ := G.call_ex _ hb
    clear hb
    (try clear g)
    revert g1
    intro g
    go_wp2_with (with_reducible refine G.any_mark _ ?_; (try generalize Array.size (World.heap (G.w _)) = bk); (try dsimp only [List.set_cons_zero, List.set_cons_succ]); (try clear g); intro g)
    go_ret
    exact ⟨rfl, G.below _⟩
/-- a way -/
def Way (h : Int) : Prop := 0 ≤ h ∧ h ≤ 400000000000
instance (h : Int) : Decidable (Way h) := inferInstanceAs (Decidable (_ ∧ _))
theorem reach_any (h : Int) (w : World) : Calls Try.prog 42 #[.int .i64 h] w fun e w' => e = .returned (.int .i64 (nearE (decide (Way h)))) ∧ Below w.heap.size w w' := by
  refine calls_g fun g => ?_
  by_cases h1 : 0 ≤ h
  · by_cases h2 : h ≤ 400000000000
    · rw [decide_eq_true (show Way h from ⟨h1, h2⟩)]
      have h3 : ¬ h < 0 := by omega
      have h4 : ¬ 400000000000 < h := by omega
      go_enter Try.func42, Try.ntmps42
      go_wp2_with (with_reducible refine G.any_mark _ ?_; (try generalize Array.size (World.heap (G.w _)) = bk); (try dsimp only [List.set_cons_zero, List.set_cons_succ]); (try clear g); intro g)
      go_ret
      exact ⟨rfl, G.below _⟩
    · rw [decide_eq_false (show ¬ Way h from fun h => h2 h.2)]
      have h3 : ¬ h < 0 := by omega
      have h4 : 400000000000 < h := by omega
      go_enter Try.func42, Try.ntmps42
      go_wp2_with (with_reducible refine G.any_mark _ ?_; (try generalize Array.size (World.heap (G.w _)) = bk); (try dsimp only [List.set_cons_zero, List.set_cons_succ]); (try clear g); intro g)
      go_ret
      exact ⟨rfl, G.below _⟩
  · rw [decide_eq_false (show ¬ Way h from fun h => h1 h.1)]
    have h3 : h < 0 := by omega
    go_enter Try.func42, Try.ntmps42
    go_wp2_with (with_reducible refine G.any_mark _ ?_; (try generalize Array.size (World.heap (G.w _)) = bk); (try dsimp only [List.set_cons_zero, List.set_cons_succ]); (try clear g); intro g)
    go_ret
    exact ⟨rfl, G.below _⟩
theorem rreach_any (h : Int) (w : World) : Calls Try.prog 56 #[.int .i64 h] w fun e w' => e = .returned (.bool (decide (Way h))) ∧ Below w.heap.size w w' := by
  refine calls_g fun g => ?_
  by_cases h1 : 0 ≤ h
  · by_cases h2 : h ≤ 400000000000
    · rw [decide_eq_true (show Way h from ⟨h1, h2⟩)]
      have h3 : ¬ h < 0 := by omega
      have h4 : ¬ 400000000000 < h := by omega
      go_enter Try.func56, Try.ntmps56
      go_wp2_with (with_reducible refine G.any_mark _ ?_; (try generalize Array.size (World.heap (G.w _)) = bk); (try dsimp only [List.set_cons_zero, List.set_cons_succ]); (try clear g); intro g)
      go_ret
      exact ⟨rfl, G.below _⟩
    · rw [decide_eq_false (show ¬ Way h from fun h => h2 h.2)]
      have h3 : ¬ h < 0 := by omega
      have h4 : 400000000000 < h := by omega
      go_enter Try.func56, Try.ntmps56
      go_wp2_with (with_reducible refine G.any_mark _ ?_; (try generalize Array.size (World.heap (G.w _)) = bk); (try dsimp only [List.set_cons_zero, List.set_cons_succ]); (try clear g); intro g)
      go_ret
      exact ⟨rfl, G.below _⟩
  · rw [decide_eq_false (show ¬ Way h from fun h => h1 h.1)]
    have h3 : h < 0 := by omega
    go_enter Try.func56, Try.ntmps56
    go_wp2_with (with_reducible refine G.any_mark _ ?_; (try generalize Array.size (World.heap (G.w _)) = bk); (try dsimp only [List.set_cons_zero, List.set_cons_succ]); (try clear g); intro g)
    go_ret
    exact ⟨rfl, G.below _⟩
def slackV (h : Int) : Int := (h + 1073741823) / 1073741824 + 1
/-- what Slack says: a number and an error -/
def slackX (h : Int) : Int × Int := if Way h then (slackV h, 0) else (0, 2)
theorem slack_any (h : Int) (w : World) : Calls Try.prog 24 #[.int .i64 h] w fun e w' => e = .returned (.tuple #[.int .i64 (slackX h).1, .int .i64 (slackX h).2]) ∧ Below w.heap.size w w' := by
  refine calls_g fun g => ?_
  have C := Lib.hid (fun w => reach_any h w)
  by_cases hw : Way h
  · have e : slackX h = (slackV h, 0) := if_pos hw
    rw [e]
    rw [decide_eq_true hw] at C
    obtain ⟨h1, h2⟩ := hw
    have w1 : IntKind.i64.wrap (h + 1073741824) = h + 1073741824 := by rw [IntKind.wrap_i64]; omega
    have w2 : IntKind.i64.wrap (h + 1073741824 - 1) = h + 1073741824 - 1 := by rw [IntKind.wrap_i64]; omega
    obtain ⟨q, hq⟩ : ∃ q, (h + 1073741823) / 1073741824 = q := ⟨_, rfl⟩
    have w3 : Int.tdiv (h + 1073741824 - 1) 1073741824 = q := by rw [Int.tdiv_eq_ediv_of_nonneg (by omega), show h + 1073741824 - 1 = h + 1073741823 by omega]; exact hq
    have w3b : (h + 1073741824 - 1) / 1073741824 = q := by rw [show h + 1073741824 - 1 = h + 1073741823 by omega]; exact hq
    have w4 : IntKind.i64.wrap (q + 1) = q + 1 := by rw [IntKind.wrap_i64]; omega
    have w5 : IntKind.i64.wrap q = q := by rw [IntKind.wrap_i64]; omega
    unfold slackV
    rw [hq]
    clear h1 h2 hq e
    go_enter Try.func24, Try.ntmps24
    go_wp2_with (with_reducible refine G.any_mark _ ?_; (try generalize Array.size (World.heap (G.w _)) = bk); (try dsimp only [List.set_cons_zero, List.set_cons_succ]); (try clear g); intro g)
    refine (C.out _).mono ?_
    rintro e w1 ⟨rfl, hb⟩
    obtain ⟨g1, rfl⟩ := G.call_ex _ hb
    clear hb
    (try clear g)
    revert g1
    intro g
    go_wp2_with (with_reducible refine G.any_mark _ ?_; (try generalize Array.size (World.heap (G.w _)) = bk); (try dsimp only [List.set_cons_zero, List.set_cons_succ]); (try clear g); intro g)
    go_ret2
    exact ⟨rfl, G.below _⟩
  · have e : slackX h = (0, 2) := if_neg hw
    rw [e]
    rw [decide_eq_false hw] at C
    clear hw e
    go_enter Try.func24, Try.ntmps24
    go_wp2_with (with_reducible refine G.any_mark _ ?_; (try generalize Array.size (World.heap (G.w _)) = bk); (try dsimp only [List.set_cons_zero, List.set_cons_succ]); (try clear g); intro g)
    refine (C.out _).mono ?_
    rintro e w1 ⟨rfl, hb⟩
    obtain ⟨g1, rfl⟩ := G.call_ex _ hb
    clear hb
    (try clear g)
    revert g1
    intro g
    go_wp2_with (with_reducible refine G.any_mark _ ?_; (try generalize Array.size (World.heap (G.w _)) = bk); (try dsimp only [List.set_cons_zero, List.set_cons_succ]); (try clear g); intro g)
    go_ret2
    exact ⟨rfl, G.below _⟩
theorem rslack_any (h : Int) (w : World) : Calls Try.prog 25 #[.int .i64 h] w fun e w' => e = .returned (.tuple #[.int .i64 (slackX h).1, .int .i64 (slackX h).2]) ∧ Below w.heap.size w w' := by
  refine calls_g fun g => ?_
  have C := Lib.hid (fun w => rreach_any h w)
  by_cases hw : Way h
  · have e : slackX h = (slackV h, 0) := if_pos hw
    rw [e]
    rw [decide_eq_true hw] at C
    obtain ⟨h1, h2⟩ := hw
    have w1 : IntKind.i64.wrap (h + 1073741824) = h + 1073741824 := by rw [IntKind.wrap_i64]; omega
    have w2 : IntKind.i64.wrap (h + 1073741824 - 1) = h + 1073741824 - 1 := by rw [IntKind.wrap_i64]; omega
    obtain ⟨q, hq⟩ : ∃ q, (h + 1073741823) / 1073741824 = q := ⟨_, rfl⟩
    have w3 : Int.tdiv (h + 1073741824 - 1) 1073741824 = q := by rw [Int.tdiv_eq_ediv_of_nonneg (by omega), show h + 1073741824 - 1 = h + 1073741823 by omega]; exact hq
    have w3b : (h + 1073741824 - 1) / 1073741824 = q := by rw [show h + 1073741824 - 1 = h + 1073741823 by omega]; exact hq
    have w4 : IntKind.i64.wrap (q + 1) = q + 1 := by rw [IntKind.wrap_i64]; omega
    have w5 : IntKind.i64.wrap q = q := by rw [IntKind.wrap_i64]; omega
    unfold slackV
    rw [hq]
    clear h1 h2 hq e
    go_enter Try.func25, Try.ntmps25
    go_wp2_with (with_reducible refine G.any_mark _ ?_; (try generalize Array.size (World.heap (G.w _)) = bk); (try dsimp only [List.set_cons_zero, List.set_cons_succ]); (try clear g); intro g)
    refine (C.out _).mono ?_
    rintro e w1 ⟨rfl, hb⟩
    obtain ⟨g1, rfl⟩ := G.call_ex _ hb
    clear hb
    (try clear g)
    revert g1
    intro g
    go_wp2_with (with_reducible refine G.any_mark _ ?_; (try generalize Array.size (World.heap (G.w _)) = bk); (try dsimp only [List.set_cons_zero, List.set_cons_succ]); (try clear g); intro g)
    go_ret2
    exact ⟨rfl, G.below _⟩
  · have e : slackX h = (0, 2) := if_neg hw
    rw [e]
    rw [decide_eq_false hw] at C
    clear hw e
    go_enter Try.func25, Try.ntmps25
    go_wp2_with (with_reducible refine G.any_mark _ ?_; (try generalize Array.size (World.heap (G.w _)) = bk); (try dsimp only [List.set_cons_zero, List.set_cons_succ]); (try clear g); intro g)
    refine (C.out _).mono ?_
    rintro e w1 ⟨rfl, hb⟩
    obtain ⟨g1, rfl⟩ := G.call_ex _ hb
    clear hb
    (try clear g)
    revert g1
    intro g
    go_wp2_with (with_reducible refine G.any_mark _ ?_; (try generalize Array.size (World.heap (G.w _)) = bk); (try dsimp only [List.set_cons_zero, List.set_cons_succ]); (try clear g); intro g)
    go_ret2
    exact ⟨rfl, G.below _⟩
end Go.Proofs.Ytodigegjngnknaa
