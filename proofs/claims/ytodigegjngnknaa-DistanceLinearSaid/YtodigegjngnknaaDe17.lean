/- Plain facts and contracts of functions of the program, out of walks. Their conditions stand ahead of each. -/
import Derived.Test.YtodigegjngnknaaDe15
import Derived.Below
import Derived.BigQuiet
import Derived.Deep.Draws
import Derived.Deep.QuietTactic
import Derived.Deep.RegionHeld3
import Derived.Laws.NewBlocks
import Derived.Laws.OwnMore
import Derived.Laws.Pointers
import Derived.Laws.Rows
import Derived.Lib.BitFns
import Derived.Lib.Hide
import Derived.Lib.ItoaNum
import Derived.LoopIn
import Derived.LoopNIn
import Derived.OwnWalkIn
import Derived.RangeFuncBound
import Derived.RangeFuncBox
import Derived.RangeFuncCalls
import Derived.RangeFuncLeaves
import Derived.RangeFuncNested
import Derived.RowKit3
import Derived.Shelf.Abstract
import Derived.Shelf.RegionOpen
import Derived.StillTactics
import Derived.StillTailTactics
import Derived.TacticsInMore
import Derived.Test.YtodigegjngnknaaProg
import Derived.WalkKit
import Derived.WalkLawsBesides
import Derived.WalkSpells
set_option linter.unusedVariables false
set_option linter.unusedSimpArgs false
namespace Go.Proofs.Ytodigegjngnknaa
open Go.RowKit GW NL Go.Shelf
attribute [local go_sem] Oper.semAt_some
/-- the order of two numbers -/
def ord (x y : Nat) : Int := if x < y then -1 else if y < x then 1 else 0
theorem cmpU_any (x y : Nat) (w : World) : Calls Try.prog 105 #[.int .u32 x, .int .u32 y] w fun e w' => e = .returned (.int .i64 (ord x y)) ∧ w = w' := by
  unfold ord
  rcases Nat.lt_trichotomy x y with h | h | h
  · rw [if_pos h]
    go_enter Try.func105, Try.ntmps105
    go_wp2_with (first | (go_at_call 118; go_in) | go_back)
    go_ret
    exact ⟨rfl, rfl⟩
  · subst h
    rw [if_neg (by omega), if_neg (by omega)]
    go_enter Try.func105, Try.ntmps105
    go_wp2_with (first | (go_at_call 118; go_in) | go_back)
    go_ret
    exact ⟨rfl, rfl⟩
  · rw [if_neg (by omega), if_pos h]
    have h' : ¬ x < y := by omega
    go_enter Try.func105, Try.ntmps105
    go_wp2_with (first | (go_at_call 118; go_in) | go_back)
    go_ret
    exact ⟨rfl, rfl⟩
theorem cmpI_any (x y : Nat) (w : World) : Calls Try.prog 100 #[.int .i64 x, .int .i64 y] w fun e w' => e = .returned (.int .i64 (ord x y)) ∧ w = w' := by
  unfold ord
  rcases Nat.lt_trichotomy x y with h | h | h
  · rw [if_pos h]
    go_enter Try.func100, Try.ntmps100
    go_wp2_with (first | (go_at_call 114; go_in) | go_back)
    go_ret
    exact ⟨rfl, rfl⟩
  · subst h
    rw [if_neg (by omega), if_neg (by omega)]
    go_enter Try.func100, Try.ntmps100
    go_wp2_with (first | (go_at_call 114; go_in) | go_back)
    go_ret
    exact ⟨rfl, rfl⟩
  · rw [if_neg (by omega), if_pos h]
    have h' : ¬ x < y := by omega
    go_enter Try.func100, Try.ntmps100
    go_wp2_with (first | (go_at_call 114; go_in) | go_back)
    go_ret
    exact ⟨rfl, rfl⟩
theorem rev_take {n k : Nat} (h : k < n) : (List.finRange n).reverse.take (k + 1) = (List.finRange n).reverse.take k ++ [⟨n - 1 - k, by omega⟩] := by
  rw [List.take_succ_eq_append_getElem (by simp; exact h)]
  congr 1
  simp [List.getElem_reverse]
theorem rev_take_length {n k : Nat} (h : k ≤ n) : ((List.finRange n).reverse.take k).length = k := by simp; omega
set_option maxRecDepth 100000 in
set_option maxHeartbeats 2000000 in
/-- slices.Backward's closure over limbs -/
theorem back1_in (F : Fence) (nn : Nat) (h9 : F.fn 117) (hro : F.round = none) (hn : 1 ≤ nn) (l Bs n₀ : Nat) (A : Option Addr) (n cap : Nat) (f : Nat → Nat) (hreach : n ≤ 35184372088832) (J Jx : List (Fin n) → World → Prop)
    (hY : ∀ pre (x : Fin n) W, J pre W → pre.length < n → YieldAt F (nn - 1) Try.prog l #[.int .i64 ((x.val : Nat) : Int), .int .u32 ((f x.val : Nat) : Int)] W fun e W' =>
      (e = .returned (.bool true) ∧ J (pre ++ [x]) W' ∧ Below n₀ W W') ∨ (e = .returned (.bool false) ∧ Jx (pre ++ [x]) W'))
    (W : World) (hBs : Bs < n₀) (hBc : W.cell? ⟨Bs, 0, none⟩ = some (.slice A n cap)) (hc : 0 < n → ∃ b o, A = some ⟨b, o, none⟩ ∧ b < n₀ ∧ ∀ j, j < n → W.cell? ⟨b, o + j, none⟩ = some (.int .u32 ((f j : Nat) : Int))) (h0 : J [] W) :
    CallsIn F nn Try.prog 117 #[.func (.yield l) #[] #[], .pointer (some ⟨Bs, 0, none⟩)] W fun e W' => (∃ v, e = .returned v) ∧
      ((∃ ys, ys = (List.finRange n).reverse ∧ J ys W') ∨ (∃ pre, (∃ k, k ≤ n ∧ pre = (List.finRange n).reverse.take k) ∧ Jx pre W')) := by
  refine callsIn_of_wp Try.func117 rfl h9 ?_ hro
  simp only [Try.ntmps117, List.size_toArray, List.length_cons, List.length_nil, Nat.reduceAdd, Nat.reduceSub, Array.replicate_succ, Array.replicate_zero, List.push_toArray, List.append_toArray, List.nil_append, List.cons_append]
  gi_wp2
  gi_loopw [3] (fun i wr => ∃ (k : Nat) (i' : Int), i = .int .i64 i' ∧ i' + k + 1 = n ∧ k ≤ n ∧ J ((List.finRange n).reverse.take k) wr ∧ Below n₀ W wr)
    (fun i _ => (intOf i + 1).toNat)
  case atStart => exact ⟨0, _, rfl, by omega, Nat.zero_le _, h0, Below.refl _ _⟩
  case round =>
    obtain ⟨k, i', rfl, hi, hk, hJs, hnx⟩ := hrel
    have hbx := (hnx.cell (p := ⟨Bs, 0, none⟩) hBs).trans hBc
    by_cases hlt : 0 ≤ i'
    · obtain ⟨j, rfl⟩ : ∃ j : Nat, i' = j := ⟨i'.toNat, by omega⟩
      obtain ⟨b, o, rfl, hb, hcc⟩ := hc (by omega)
      have hcx := (hnx.cell (p := ⟨b, o + j, none⟩) hb).trans (hcc j (by omega))
      have hjn : j < n := by omega
      obtain ⟨fn, tmps, assign, body, hy, hR⟩ := hY _ ⟨j, hjn⟩ wr hJs (by rw [rev_take_length hk]; omega)
      dsimp only at hy
      have hE : (List.finRange n).reverse.take (k + 1) = (List.finRange n).reverse.take k ++ [⟨j, hjn⟩] := by
        rw [rev_take (by omega)]
        congr 3
        omega
      have HE := Lib.hid hE
      clear hE hcc hc
      have HI := Lib.hid hi
      have hi1 : j + k < n := by omega
      have hi2 : (j : Int) + k + 1 ≤ n := by omega
      clear hi
      have hjj : ((j : Int) ≥ 0) := by omega
      gi_wp2
      refine hR.mono ?_
      rintro e W3 (⟨rfl, hJ3, hk3⟩ | ⟨rfl, hJx3⟩)
      · gi_wp2
        go_roundw
        case rel => exact ⟨k + 1, _, rfl, by have := HI.out; omega, by omega, by rw [HE.out]; exact hJ3, hnx.trans hk3⟩
        case measure => first | (simp [intOf]; done) | (simp [intOf]; omega)
      · gi_wp2
        refine bodyPost_ret (results_none rfl _ _ _) rfl ?_
        exact ⟨⟨_, rfl⟩, .inr ⟨_, ⟨k + 1, by omega, HE.out.symm⟩, hJx3⟩⟩
    · obtain rfl : k = n := by omega
      obtain rfl : i' = -1 := by omega
      gi_wp2
      go_end0
      rw [List.take_of_length_le (by simp)] at hJs
      first | exact ⟨⟨_, rfl⟩, .inl ⟨_, rfl, hJs⟩⟩ | exact ⟨⟨_, rfl⟩, .inl hJs⟩
end Go.Proofs.Ytodigegjngnknaa
namespace Go.Proofs.Ytodigegjngnknaa
open Go.RowKit GW NL Go.Shelf
attribute [local go_sem] Oper.semAt_some
theorem back_in (F : Fence) (nn : Nat) (h5 : F.fn 104) (hro : F.round = none) (a : Option Addr) (len cap : Nat) (w : World) :
    CallsIn F nn Try.prog 104 #[.slice a len cap] w fun e w' => e = .returned (.func (.func 117) #[] #[.pointer (some ⟨w.heap.size, 0, none⟩)]) ∧ w' = w.alloc (.cells #[.slice a len cap] 65) := by
  refine callsIn_of_wp Try.func104 rfl h5 ?_ hro
  simp only [Try.ntmps104, List.size_toArray, List.length_cons, List.length_nil, Nat.reduceAdd, Nat.reduceSub, Array.replicate_succ, Array.replicate_zero, List.push_toArray, List.append_toArray, List.nil_append, List.cons_append]
  gi_wp2
  go_ret
  exact ⟨rfl, rfl⟩
/-- two lists of limbs of one length: A reads as la, B as lb, both below n₀ -/
def LimB (n₀ : Nat) (W : World) (A : Option Addr) (n : Nat) (l : List Nat) : Prop := 0 < n → ∃ b o, A = some ⟨b, o, none⟩ ∧ b < n₀ ∧ ∀ j, j < n → W.cell? ⟨b, o + j, none⟩ = some (.int .u32 ((l.getD j 0 : Nat) : Int))
theorem LimB.below {n₀ n : Nat} {W W' : World} {A : Option Addr} {l : List Nat} (h : LimB n₀ W A n l) (hb : Below n₀ W W') : LimB n₀ W' A n l := by
  intro hn
  obtain ⟨b, o, e, h1, h2⟩ := h hn
  exact ⟨b, o, e, h1, fun j hj => (hb.cell (p := ⟨b, o + j, none⟩) h1).trans (h2 j hj)⟩
theorem limB_of {w : World} {A : Option Addr} {c : Nat} {l : List Nat} (h : SlW w A c l) : LimB w.heap.size w A l.length l := by
  intro hn
  obtain ⟨b, o, e, hc⟩ := limW_cell h.lim hn
  refine ⟨b, o, e, ?_, hc⟩
  have := World.block_lt_of_cell? w _ (hc 0 hn)
  exact this
/-- the result of a comparison that goes from the last limb on -/
theorem ord_at {la lb : List Nat} {k : Nat} (oa : Ok la) (ob : Ok lb) (hl : la.length = lb.length) (hk : k < la.length) (he : ∀ j, k < j → j < la.length → la.getD j 0 = lb.getD j 0) (hne : la.getD k 0 ≠ lb.getD k 0) : ord (val la) (val lb) = ord (la.getD k 0) (lb.getD k 0) := by
  have hd : la.drop (k + 1) = lb.drop (k + 1) := by
    apply List.ext_getElem
    · simp; omega
    · intro i h1 h2
      simp only [List.getElem_drop]
      simp only [List.length_drop] at h1 h2
      have := he (k + 1 + i) (by omega) (by omega)
      rw [List.getD_eq_getElem?_getD, List.getD_eq_getElem?_getD, List.getElem?_eq_getElem (by omega), List.getElem?_eq_getElem (by omega)] at this
      simpa using this
  unfold ord
  rcases Nat.lt_or_gt_of_ne hne with h | h
  · rw [if_pos (val_lt_of_drop oa hl hk hd h), if_pos h]
  · have := val_lt_of_drop ob hl.symm (by omega) hd.symm h
    rw [if_neg (by omega), if_pos this, if_neg (by omega), if_pos h]
theorem eq_of_all {la lb : List Nat} (hl : la.length = lb.length) (he : ∀ j, j < la.length → la.getD j 0 = lb.getD j 0) : la = lb := by
  apply List.ext_getElem hl
  intro i h1 h2
  have := he i h1
  rw [List.getD_eq_getElem?_getD, List.getD_eq_getElem?_getD, List.getElem?_eq_getElem (by omega), List.getElem?_eq_getElem (by omega)] at this
  simpa using this
theorem ord_self (x : Nat) : ord x x = 0 := by unfold ord; rw [if_neg (by omega), if_neg (by omega)]
theorem ord_ne {x y : Nat} (h : x ≠ y) : (ord x y == 0) = false := by
  rw [beq_eq_false_iff_ne]; unfold ord
  rcases Nat.lt_or_gt_of_ne h with h | h
  · rw [if_pos h]; decide
  · rw [if_neg (by omega), if_pos h]; decide
theorem back_stops (F : Fence) (nn : Nat) (h9 : F.fn 117) (hro : F.round = none) (hn : 1 ≤ nn) (Bs n₀ : Nat) (A : Option Addr) (n cap : Nat) (l : List Nat) (hreach : n ≤ 35184372088832) (w : World) (hn₀ : n₀ ≤ w.heap.size)
    (hBs : Bs < n₀) (hc : w.cell? ⟨Bs, 0, none⟩ = some (.slice A n cap)) (hL : LimB n₀ w A n l) :
    SeqStopsK F nn Try.prog 117 #[.pointer (some ⟨Bs, 0, none⟩)] (fun x : Fin n => #[Value.int .i64 ((x.val : Nat) : Int), Value.int .u32 ((l.getD x.val 0 : Nat) : Int)]) (Below n₀) (fun ys => ys = (List.finRange n).reverse)
      (fun pre => ∃ k, k ≤ n ∧ pre = (List.finRange n).reverse.take k) n w := fun lp J Jx W hW _ _ hY h0 => by
  have hc' := (hW.cell (p := ⟨Bs, 0, none⟩) (Nat.lt_of_lt_of_le hBs hn₀)).trans hc
  have hL' := hL.below (hW.mono hn₀)
  exact back1_in F nn h9 hro hn lp Bs n₀ A n cap (fun j => l.getD j 0) hreach J Jx hY W hBs hc' hL' h0
theorem mem_rev_take {n k : Nat} (hk : k ≤ n) (x : Fin n) : x ∈ (List.finRange n).reverse.take k ↔ n - k ≤ x.val := by
  constructor
  · intro h
    obtain ⟨i, hi, e⟩ := List.getElem_of_mem h
    have e2 := congrArg Fin.val e
    rw [List.length_take, List.length_reverse, List.length_finRange] at hi
    simp [List.getElem_take, List.getElem_reverse] at e2
    omega
  · intro h
    rw [List.mem_iff_getElem]
    refine ⟨n - 1 - x.val, by simp; omega, ?_⟩
    apply Fin.ext
    simp
    omega
set_option maxRecDepth 100000 in
set_option maxHeartbeats 2000000 in
theorem compare_same (A B : Option Addr) (ca cb n : Nat) (la lb : List Nat) (w : World) (ha : LimB w.heap.size w A n la) (hb : LimB w.heap.size w B n lb) (hn1 : la.length = n) (hn2 : lb.length = n) (oa : Ok la) (ob : Ok lb) (hreach : n ≤ 35184372088832) :
    CallsIn Fence.wide 8 Try.prog 79 #[.slice A n ca, .slice B n cb] w fun e W' => e = .returned (.int .i64 (ord (val la) (val lb))) ∧ Below w.heap.size w W' := by
  have CI := fun w => cmpI_any n n w
  rw [ord_self] at CI
  have HI := Lib.hid CI
  have H1 := Lib.hid hn1
  have H2 := Lib.hid hn2
  clear CI hn1 hn2
  refine callsIn_of_wp_marks Try.func79 rfl trivial ?_ rfl
  simp only [Try.ntmps79, List.size_toArray, List.length_cons, List.length_nil, Nat.reduceAdd, Nat.reduceSub, Array.replicate_succ, Array.replicate_zero, List.push_toArray, List.append_toArray, List.nil_append, List.cons_append]
  gi_wp2_with (first | (refine ⟨trivial, ?_⟩; gi_at_call 100; refine (callsIn_wide.2 (HI.out _)).mono ?_; rintro e w' ⟨rfl, rfl⟩) | (refine ⟨trivial, ?_⟩; gi_at_call 104; refine (back_in Fence.wide (8 - 1) trivial rfl _ _ _ _).mono ?_; rintro e w' ⟨rfl, rfl⟩))
  have bR := Boxed.new (w.alloc (.cells #[.slice B n cb] 65)) 3 (.int .i64 0)
  have bB := Boxed.new w 65 (.slice B n cb)
  have bS := Boxed.new ((w.alloc (.cells #[.slice B n cb] 65)).alloc (.cells #[.int .i64 0] 3)) 65 (.slice A n ca)
  simp only [World.size_alloc] at bS bR
  have hB0 : Below w.heap.size w (((w.alloc (.cells #[.slice B n cb] 65)).alloc (.cells #[.int .i64 0] 3)).alloc (.cells #[.slice A n ca] 65)) := (((Below.refl _ w).alloc (Nat.le_refl _) _).alloc (by simp) _).alloc (by simp; omega) _
  have cB := ((bB.alloc (.cells #[.int .i64 0] 3)).alloc (.cells #[.slice A n ca] 65)).cell
  have cR := (bR.alloc (.cells #[.slice A n ca] 65)).cell
  have fR := (bR.alloc (.cells #[.slice A n ca] 65)).frozen
  have cS := bS.cell
  obtain ⟨W0, hW0⟩ : ∃ W0, (((w.alloc (.cells #[.slice B n cb] 65)).alloc (.cells #[.int .i64 0] 3)).alloc (.cells #[.slice A n ca] 65)) = W0 := ⟨_, rfl⟩
  have hsz : W0.heap.size = w.heap.size + 3 := by rw [← hW0]; simp
  rw [hW0] at hB0 cB cR fR cS ⊢
  clear hW0 bR bB bS
  have HS := Lib.hid hsz
  clear hsz
  have hA0 : LimB W0.heap.size W0 A n la := by
    intro h0
    obtain ⟨b, o, e, h1, h2⟩ := (ha.below hB0) h0
    exact ⟨b, o, e, by rw [HS.out]; omega, h2⟩
  refine wpIn_rangeFunc_ownG rfl (by omega) (gf := 117) (lb := #[.pointer (some ⟨w.heap.size + 1 + 1, 0, none⟩)]) rfl trivial (enters_of Try.func117 (by kernel_rfl) rfl)
    (back_stops Fence.wide (8 - 1) trivial rfl (by omega) (w.heap.size + 1 + 1) W0.heap.size A n ca la hreach W0 (Nat.le_refl _) (by rw [HS.out]; omega) cS hA0) belowK_t (belowK_b (Nat.le_refl _)) (Below.refl _ _) (fun _ => rfl)
    (fun pre W => ((∀ p : Fin n, p ∈ pre → la.getD p.val 0 = lb.getD p.val 0) ∧ W.cell? ⟨w.heap.size + 1, 0, none⟩ = some (.int .i64 0) ∧ W.frozen? ⟨w.heap.size + 1, 0, none⟩ = false) ∧ (Below w.heap.size w W ∧ Below W0.heap.size W0 W))
    (fun c pre W => (c = .ret ∧ ∃ (ini : List (Fin n)) (last : Fin n), pre = ini ++ [last] ∧ (∀ p : Fin n, p ∈ ini → la.getD p.val 0 = lb.getD p.val 0) ∧ la.getD last.val 0 ≠ lb.getD last.val 0 ∧ W.cell? ⟨w.heap.size + 1, 0, none⟩ = some (.int .i64 (ord (la.getD last.val 0) (lb.getD last.val 0)))) ∧ Below w.heap.size w W)
    (OwnFrom.and (Own.from (fun s A B row hs hg hr => ⟨hs.1, cell_kept hs.2.1 hg hr, (frozen_kept hs.2.1 hg hr).trans hs.2.2⟩) _) (OwnFrom.and (ownFrom_below (Nat.le_refl _) (by rw [HS.out]; omega)) (ownFrom_below (Nat.le_refl _) (Nat.le_refl _))))
    (fun c => OwnFrom.and (Own.from (fun s A B row hs hg hr => by obtain ⟨hc, ini, last, e1, e2, e3, e4⟩ := hs; exact ⟨hc, ini, last, e1, e2, e3, cell_kept e4 hg hr⟩) _) (ownFrom_below (Nat.le_refl _) (by rw [HS.out]; omega)))
    ⟨⟨by simp, cR, fR⟩, hB0, Below.refl _ _⟩
    (fun x => { tmps := #[.slice A n ca, .slice B n cb, undef, .pointer (some ⟨w.heap.size, 0, none⟩), .pointer (some ⟨w.heap.size + 1, 0, none⟩), .int .i64 0, .int .i64 ((x.val : Nat) : Int), .int .u32 ((la.getD x.val 0 : Nat) : Int), undef,
          .slice A n ca, .int .i64 n, .slice B n cb, .int .i64 n, .int .i64 0, .int .i64 0, .bool false, undef, .slice A n ca, .func (.func 117) #[] #[.pointer (some ⟨w.heap.size + 1 + 1, 0, none⟩)], .int .i64 ((x.val : Nat) : Int), .int .u32 ((la.getD x.val 0 : Nat) : Int), undef, undef, undef, undef, undef, undef, undef, undef, undef], defers := [] }) ?assign ?body ?done ?stop
  case assign =>
    intro l x W K hK
    gi_wp2
    exact hK
  case body =>
    rintro l pre x W ⟨⟨hp, hcr, hfr⟩, hB, hB1⟩ _
    obtain ⟨i, hin⟩ := x
    dsimp only
    have hcb := (hB1.cell (p := ⟨w.heap.size, 0, none⟩) (by rw [HS.out]; show w.heap.size < _; omega)).trans cB
    obtain ⟨b, o, rfl, hbb, hcell⟩ := (hb.below hB) (by omega)
    have e1 := hcell i hin
    clear hcell
    obtain ⟨x, hx⟩ : ∃ x, la.getD i 0 = x := ⟨_, rfl⟩
    obtain ⟨y, hy⟩ : ∃ y, lb.getD i 0 = y := ⟨_, rfl⟩
    rw [hy] at e1
    rw [hx]
    have HX := Lib.hid hx
    have HY := Lib.hid hy
    clear hx hy
    have CU := Lib.hid (fun w => cmpU_any x y w)
    have hp' : x = y ∨ x ≠ y := Decidable.em _
    rcases hp' with hq | hq
    · subst hq
      rw [ord_self] at CU
      gi_wp2_with (refine ⟨trivial, ?_⟩; gi_at_call 105; refine (CallsIn.inRound l (callsIn_wide.2 (CU.out _))).mono ?_; rintro e w' ⟨rfl, rfl⟩)
      exact ⟨KeepsFrom.refl _ _, Below.refl _ _, ⟨fun p hp' => (List.mem_append.1 hp').elim (hp p) (fun e => by obtain rfl := List.mem_singleton.1 e; exact HX.out.trans HY.out.symm), hcr, hfr⟩, hB, hB1⟩
    · have hne := ord_ne hq
      have HQ : Hid (la.getD i 0 ≠ lb.getD i 0) := Lib.hid (by rw [HX.out, HY.out]; exact hq)
      clear hq
      obtain ⟨r, hr⟩ : ∃ r, ord x y = r := ⟨_, rfl⟩
      rw [hr] at hne CU
      have HR : Hid (r = ord (la.getD i 0) (lb.getD i 0)) := Lib.hid (by rw [HX.out, HY.out, hr])
      clear hr
      gi_wp2_with (refine ⟨trivial, ?_⟩; gi_at_call 105; refine (CallsIn.inRound l (callsIn_wide.2 (CU.out _))).mono ?_; rintro e w' ⟨rfl, rfl⟩)
      exact ⟨(KeepsOthers.setCell _ _ _).from _, ⟨rfl, pre, ⟨i, hin⟩, rfl, hp, HQ.out, by dsimp only; rw [← HR.out]; exact World.cell?_setCell_same' _ _ _ (by rw [hcr]; rfl)⟩, hB.setCell (p := ⟨w.heap.size + 1, 0, none⟩) (by show w.heap.size ≤ w.heap.size + 1; omega) _⟩
  case done =>
    rintro D ys W hD rfl ⟨⟨hp, hcr, hfr⟩, hB, hB1⟩ hK
    have heq : la = lb := eq_of_all (by rw [H1.out, H2.out]) (fun j hj => hp ⟨j, by rw [← H1.out]; exact hj⟩ (by simp))
    subst heq
    gi_wp2
    have hK' := (KeepsOthers.setCell W ⟨w.heap.size + 1, 0, none⟩ (.int .i64 0)).same D _ hK rfl
    refine ⟨by simp, .inl ⟨_, _, rfl, run_takeDeferred hK', ?_⟩⟩
    have hc5 := cell_kept (World.cell?_setCell_same' W ⟨w.heap.size + 1, 0, none⟩ (.int .i64 0) (by rw [hcr]; rfl)) (grownBy_putObj' _ D (.deferred none)) (fun r e => by cases e; exact ⟨_, hK', rfl⟩)
    refine ⟨.int .i64 0, ?_, by rw [ord_self], (hB.setCell (p := ⟨w.heap.size + 1, 0, none⟩) (by show w.heap.size ≤ w.heap.size + 1; omega) _).trans (belowK_b (w := w) (Nat.le_refl _) _ D _ _ (by rw [HS.out] at hD; omega) hK' rfl rfl)⟩
    simp [results, Try.f79, go_sem, hc5]
  case stop =>
    rintro D c pre W hD ⟨k, hk, rfl⟩ ⟨⟨rfl, ini, last, e1, e2, e3, hcr⟩, hB⟩ hK
    gi_wp2
    refine ⟨by simp, .inl ⟨_, _, rfl, run_takeDeferred hK, ?_⟩⟩
    have hc5 := cell_kept hcr (grownBy_putObj' _ D (.deferred none)) (fun r e => by cases e; exact ⟨_, hK, rfl⟩)
    obtain ⟨k', rfl⟩ : ∃ k', k = k' + 1 := by
      cases k with
      | zero => simp at e1
      | succ k' => exact ⟨k', rfl⟩
    rw [rev_take (by omega)] at e1
    obtain ⟨rfl, e5⟩ := List.append_inj' e1 rfl
    have e6 : (⟨n - 1 - k', by omega⟩ : Fin n) = last := by simpa using e5
    subst e6
    have hO : ord (val la) (val lb) = ord (la.getD (n - 1 - k') 0) (lb.getD (n - 1 - k') 0) := ord_at (k := n - 1 - k') oa ob (by rw [H1.out, H2.out]) (by rw [H1.out]; omega) (fun j hj1 hj2 => e2 ⟨j, by rw [← H1.out]; exact hj2⟩ ((mem_rev_take (by omega) _).2 (by show n - k' ≤ j; omega))) e3
    dsimp only at hc5
    rw [← hO] at hc5
    refine ⟨.int .i64 (ord (val la) (val lb)), ?_, rfl, hB.trans (belowK_b (w := w) (Nat.le_refl _) W D _ _ (by rw [HS.out] at hD; omega) hK rfl rfl)⟩
    simp [results, Try.f79, go_sem, hc5]
end Go.Proofs.Ytodigegjngnknaa
