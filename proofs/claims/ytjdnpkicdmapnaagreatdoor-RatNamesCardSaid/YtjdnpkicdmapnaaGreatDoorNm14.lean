/- Plain facts and contracts of functions of the program, out of walks. Their conditions stand ahead of each. -/
import Derived.Test.YtjdnpkicdmapnaaGreatDoorNm8
import Derived.Below
import Derived.BigQuiet
import Derived.Deep.Draws
import Derived.Deep.QuietTactic
import Derived.Deep.RegionHeld3
import Derived.Laws.NewBlocks
import Derived.Laws.OwnMore
import Derived.Laws.Pointers
import Derived.Laws.Rows
import Derived.Lib.BitFns
import Derived.Lib.Hide
import Derived.Lib.ItoaNum
import Derived.LoopIn
import Derived.LoopNIn
import Derived.OwnWalkIn
import Derived.RangeFuncBound
import Derived.RangeFuncBox
import Derived.RangeFuncCalls
import Derived.RangeFuncLeaves
import Derived.RangeFuncNested
import Derived.RowKit3
import Derived.Shelf.Abstract
import Derived.Shelf.RegionOpen
import Derived.StillTactics
import Derived.StillTailTactics
import Derived.TacticsInMore
import Derived.Test.YtjdnpkicdmapnaaGreatDoorProg
import Derived.WalkKit
import Derived.WalkLawsBesides
import Derived.WalkSpells
set_option linter.unusedVariables false
set_option linter.unusedSimpArgs false
namespace Go.Proofs.YtjdnpkicdmapnaaGreatDoor
open Go.RowKit GW NL Go.Shelf
attribute [local go_sem] Oper.semAt_some
/-- the order of two numbers -/
def ord (x y : Nat) : Int := if x < y then -1 else if y < x then 1 else 0
theorem rev_take {n k : Nat} (h : k < n) : (List.finRange n).reverse.take (k + 1) = (List.finRange n).reverse.take k ++ [⟨n - 1 - k, by omega⟩] := by
  rw [List.take_succ_eq_append_getElem (by simp; exact h)]
  congr 1
  simp [List.getElem_reverse]
theorem rev_take_length {n k : Nat} (h : k ≤ n) : ((List.finRange n).reverse.take k).length = k := by simp; omega
set_option maxRecDepth 100000 in
set_option maxHeartbeats 2000000 in
/-- slices.Backward's closure over limbs -/
theorem back1_in (F : Fence) (nn : Nat) (h9 : F.fn 145) (hro : F.round = none) (hn : 1 ≤ nn) (l Bs n₀ : Nat) (A : Option Addr) (n cap : Nat) (f : Nat → Nat) (hreach : n ≤ 35184372088832) (J Jx : List (Fin n) → World → Prop)
    (hY : ∀ pre (x : Fin n) W, J pre W → pre.length < n → YieldAt F (nn - 1) Tryz.prog l #[.int .i64 ((x.val : Nat) : Int), .int .u32 ((f x.val : Nat) : Int)] W fun e W' =>
      (e = .returned (.bool true) ∧ J (pre ++ [x]) W' ∧ Below n₀ W W') ∨ (e = .returned (.bool false) ∧ Jx (pre ++ [x]) W'))
    (W : World) (hBs : Bs < n₀) (hBc : W.cell? ⟨Bs, 0, none⟩ = some (.slice A n cap)) (hc : 0 < n → ∃ b o, A = some ⟨b, o, none⟩ ∧ b < n₀ ∧ ∀ j, j < n → W.cell? ⟨b, o + j, none⟩ = some (.int .u32 ((f j : Nat) : Int))) (h0 : J [] W) :
    CallsIn F nn Tryz.prog 145 #[.func (.yield l) #[] #[], .pointer (some ⟨Bs, 0, none⟩)] W fun e W' => (∃ v, e = .returned v) ∧
      ((∃ ys, ys = (List.finRange n).reverse ∧ J ys W') ∨ (∃ pre, (∃ k, k ≤ n ∧ pre = (List.finRange n).reverse.take k) ∧ Jx pre W')) := by
  refine callsIn_of_wp Tryz.func145 rfl h9 ?_ hro
  simp only [Tryz.ntmps145, List.size_toArray, List.length_cons, List.length_nil, Nat.reduceAdd, Nat.reduceSub, Array.replicate_succ, Array.replicate_zero, List.push_toArray, List.append_toArray, List.nil_append, List.cons_append]
  gi_wp2
  gi_loopw [3] (fun i wr => ∃ (k : Nat) (i' : Int), i = .int .i64 i' ∧ i' + k + 1 = n ∧ k ≤ n ∧ J ((List.finRange n).reverse.take k) wr ∧ Below n₀ W wr)
    (fun i _ => (intOf i + 1).toNat)
  case atStart => exact ⟨0, _, rfl, by omega, Nat.zero_le _, h0, Below.refl _ _⟩
  case round =>
    obtain ⟨k, i', rfl, hi, hk, hJs, hnx⟩ := hrel
    have hbx := (hnx.cell (p := ⟨Bs, 0, none⟩) hBs).trans hBc
    by_cases hlt : 0 ≤ i'
    · obtain ⟨j, rfl⟩ : ∃ j : Nat, i' = j := ⟨i'.toNat, by omega⟩
      obtain ⟨b, o, rfl, hb, hcc⟩ := hc (by omega)
      have hcx := (hnx.cell (p := ⟨b, o + j, none⟩) hb).trans (hcc j (by omega))
      have hjn : j < n := by omega
      obtain ⟨fn, tmps, assign, body, hy, hR⟩ := hY _ ⟨j, hjn⟩ wr hJs (by rw [rev_take_length hk]; omega)
      dsimp only at hy
      have hE : (List.finRange n).reverse.take (k + 1) = (List.finRange n).reverse.take k ++ [⟨j, hjn⟩] := by
        rw [rev_take (by omega)]
        congr 3
        omega
      have HE := Lib.hid hE
      clear hE hcc hc
      have HI := Lib.hid hi
      have hi1 : j + k < n := by omega
      have hi2 : (j : Int) + k + 1 ≤ n := by omega
      clear hi
      have hjj : ((j : Int) ≥ 0) := by omega
      gi_wp2
      refine hR.mono ?_
      rintro e W3 (⟨rfl, hJ3, hk3⟩ | ⟨rfl, hJx3⟩)
      · gi_wp2
        go_roundw
        case rel => exact ⟨k + 1, _, rfl, by have := HI.out; omega, by omega, by rw [HE.out]; exact hJ3, hnx.trans hk3⟩
        case measure => first | (simp [intOf]; done) | (simp [intOf]; omega)
      · gi_wp2
        refine bodyPost_ret (results_none rfl _ _ _) rfl ?_
        exact ⟨⟨_, rfl⟩, .inr ⟨_, ⟨k + 1, by omega, HE.out.symm⟩, hJx3⟩⟩
    · obtain rfl : k = n := by omega
      obtain rfl : i' = -1 := by omega
      gi_wp2
      go_end0
      rw [List.take_of_length_le (by simp)] at hJs
      first | exact ⟨⟨_, rfl⟩, .inl ⟨_, rfl, hJs⟩⟩ | exact ⟨⟨_, rfl⟩, .inl hJs⟩
end Go.Proofs.YtjdnpkicdmapnaaGreatDoor
namespace Go.Proofs.YtjdnpkicdmapnaaGreatDoor
open Go.RowKit GW NL Go.Shelf
attribute [local go_sem] Oper.semAt_some
theorem back_in (F : Fence) (nn : Nat) (h5 : F.fn 126) (hro : F.round = none) (a : Option Addr) (len cap : Nat) (w : World) :
    CallsIn F nn Tryz.prog 126 #[.slice a len cap] w fun e w' => e = .returned (.func (.func 145) #[] #[.pointer (some ⟨w.heap.size, 0, none⟩)]) ∧ w' = w.alloc (.cells #[.slice a len cap] 23) := by
  refine callsIn_of_wp Tryz.func126 rfl h5 ?_ hro
  simp only [Tryz.ntmps126, List.size_toArray, List.length_cons, List.length_nil, Nat.reduceAdd, Nat.reduceSub, Array.replicate_succ, Array.replicate_zero, List.push_toArray, List.append_toArray, List.nil_append, List.cons_append]
  gi_wp2
  go_ret
  exact ⟨rfl, rfl⟩
/-- two lists of limbs of one length: A reads as la, B as lb, both below n₀ -/
def LimB (n₀ : Nat) (W : World) (A : Option Addr) (n : Nat) (l : List Nat) : Prop := 0 < n → ∃ b o, A = some ⟨b, o, none⟩ ∧ b < n₀ ∧ ∀ j, j < n → W.cell? ⟨b, o + j, none⟩ = some (.int .u32 ((l.getD j 0 : Nat) : Int))
theorem LimB.below {n₀ n : Nat} {W W' : World} {A : Option Addr} {l : List Nat} (h : LimB n₀ W A n l) (hb : Below n₀ W W') : LimB n₀ W' A n l := by
  intro hn
  obtain ⟨b, o, e, h1, h2⟩ := h hn
  exact ⟨b, o, e, h1, fun j hj => (hb.cell (p := ⟨b, o + j, none⟩) h1).trans (h2 j hj)⟩
theorem limB_of {w : World} {A : Option Addr} {c : Nat} {l : List Nat} (h : SlW w A c l) : LimB w.heap.size w A l.length l := by
  intro hn
  obtain ⟨b, o, e, hc⟩ := limW_cell h.lim hn
  refine ⟨b, o, e, ?_, hc⟩
  have := World.block_lt_of_cell? w _ (hc 0 hn)
  exact this
/-- the result of a comparison that goes from the last limb on -/
theorem ord_at {la lb : List Nat} {k : Nat} (oa : Ok la) (ob : Ok lb) (hl : la.length = lb.length) (hk : k < la.length) (he : ∀ j, k < j → j < la.length → la.getD j 0 = lb.getD j 0) (hne : la.getD k 0 ≠ lb.getD k 0) : ord (val la) (val lb) = ord (la.getD k 0) (lb.getD k 0) := by
  have hd : la.drop (k + 1) = lb.drop (k + 1) := by
    apply List.ext_getElem
    · simp; omega
    · intro i h1 h2
      simp only [List.getElem_drop]
      simp only [List.length_drop] at h1 h2
      have := he (k + 1 + i) (by omega) (by omega)
      rw [List.getD_eq_getElem?_getD, List.getD_eq_getElem?_getD, List.getElem?_eq_getElem (by omega), List.getElem?_eq_getElem (by omega)] at this
      simpa using this
  unfold ord
  rcases Nat.lt_or_gt_of_ne hne with h | h
  · rw [if_pos (val_lt_of_drop oa hl hk hd h), if_pos h]
  · have := val_lt_of_drop ob hl.symm (by omega) hd.symm h
    rw [if_neg (by omega), if_pos this, if_neg (by omega), if_pos h]
theorem eq_of_all {la lb : List Nat} (hl : la.length = lb.length) (he : ∀ j, j < la.length → la.getD j 0 = lb.getD j 0) : la = lb := by
  apply List.ext_getElem hl
  intro i h1 h2
  have := he i h1
  rw [List.getD_eq_getElem?_getD, List.getD_eq_getElem?_getD, List.getElem?_eq_getElem (by omega), List.getElem?_eq_getElem (by omega)] at this
  simpa using this
theorem ord_self (x : Nat) : ord x x = 0 := by unfold ord; rw [if_neg (by omega), if_neg (by omega)]
theorem ord_ne {x y : Nat} (h : x ≠ y) : (ord x y == 0) = false := by
  rw [beq_eq_false_iff_ne]; unfold ord
  rcases Nat.lt_or_gt_of_ne h with h | h
  · rw [if_pos h]; decide
  · rw [if_neg (by omega), if_pos h]; decide
theorem back_stops (F : Fence) (nn : Nat) (h9 : F.fn 145) (hro : F.round = none) (hn : 1 ≤ nn) (Bs n₀ : Nat) (A : Option Addr) (n cap : Nat) (l : List Nat) (hreach : n ≤ 35184372088832) (w : World) (hn₀ : n₀ ≤ w.heap.size)
    (hBs : Bs < n₀) (hc : w.cell? ⟨Bs, 0, none⟩ = some (.slice A n cap)) (hL : LimB n₀ w A n l) :
    SeqStopsK F nn Tryz.prog 145 #[.pointer (some ⟨Bs, 0, none⟩)] (fun x : Fin n => #[Value.int .i64 ((x.val : Nat) : Int), Value.int .u32 ((l.getD x.val 0 : Nat) : Int)]) (Below n₀) (fun ys => ys = (List.finRange n).reverse)
      (fun pre => ∃ k, k ≤ n ∧ pre = (List.finRange n).reverse.take k) n w := fun lp J Jx W hW _ _ hY h0 => by
  have hc' := (hW.cell (p := ⟨Bs, 0, none⟩) (Nat.lt_of_lt_of_le hBs hn₀)).trans hc
  have hL' := hL.below (hW.mono hn₀)
  exact back1_in F nn h9 hro hn lp Bs n₀ A n cap (fun j => l.getD j 0) hreach J Jx hY W hBs hc' hL' h0
theorem mem_rev_take {n k : Nat} (hk : k ≤ n) (x : Fin n) : x ∈ (List.finRange n).reverse.take k ↔ n - k ≤ x.val := by
  constructor
  · intro h
    obtain ⟨i, hi, e⟩ := List.getElem_of_mem h
    have e2 := congrArg Fin.val e
    rw [List.length_take, List.length_reverse, List.length_finRange] at hi
    simp [List.getElem_take, List.getElem_reverse] at e2
    omega
  · intro h
    rw [List.mem_iff_getElem]
    refine ⟨n - 1 - x.val, by simp; omega, ?_⟩
    apply Fin.ext
    simp
    omega
end Go.Proofs.YtjdnpkicdmapnaaGreatDoor
