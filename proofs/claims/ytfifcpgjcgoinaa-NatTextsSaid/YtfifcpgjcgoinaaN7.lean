/- Contracts of functions of the program, out of walks. Their conditions stand ahead of each. -/
import Derived.Test.YtfifcpgjcgoinaaN6
import Derived.RangeFuncNested
import Derived.RangeFuncBound
import Derived.RangeFuncCalls
import Derived.RangeFuncBox
import Derived.RangeFuncLeaves
import Derived.Shelf.Abstract
import Derived.Shelf.RegionOpen
import Derived.OwnWalkIn
import Derived.TacticsInMore
import Derived.LoopNIn
import Derived.LoopIn
set_option linter.unusedVariables false
set_option linter.unusedSimpArgs false
namespace Go.Proofs.Ytfifcpgjcgoinaa
open Go.RowKit GW NL Go.Shelf
attribute [local go_sem] Oper.semAt_some
/-- the order of two numbers -/
def ord (x y : Nat) : Int := if x < y then -1 else if y < x then 1 else 0
theorem cmpU_any (x y : Nat) (w : World) : Calls Try.prog 82 #[.int .u32 x, .int .u32 y] w fun e w' => e = .returned (.int .i64 (ord x y)) ∧ w = w' := by
  unfold ord
  rcases Nat.lt_trichotomy x y with h | h | h
  · rw [if_pos h]
    go_enter Try.func82, Try.ntmps82
    go_wp2_with (first | (go_at_call 93; go_in) | go_back)
    go_ret
    exact ⟨rfl, rfl⟩
  · subst h
    rw [if_neg (by omega), if_neg (by omega)]
    go_enter Try.func82, Try.ntmps82
    go_wp2_with (first | (go_at_call 93; go_in) | go_back)
    go_ret
    exact ⟨rfl, rfl⟩
  · rw [if_neg (by omega), if_pos h]
    have h' : ¬ x < y := by omega
    go_enter Try.func82, Try.ntmps82
    go_wp2_with (first | (go_at_call 93; go_in) | go_back)
    go_ret
    exact ⟨rfl, rfl⟩
theorem cmpI_any (x y : Nat) (w : World) : Calls Try.prog 80 #[.int .i64 x, .int .i64 y] w fun e w' => e = .returned (.int .i64 (ord x y)) ∧ w = w' := by
  unfold ord
  rcases Nat.lt_trichotomy x y with h | h | h
  · rw [if_pos h]
    go_enter Try.func80, Try.ntmps80
    go_wp2_with (first | (go_at_call 91; go_in) | go_back)
    go_ret
    exact ⟨rfl, rfl⟩
  · subst h
    rw [if_neg (by omega), if_neg (by omega)]
    go_enter Try.func80, Try.ntmps80
    go_wp2_with (first | (go_at_call 91; go_in) | go_back)
    go_ret
    exact ⟨rfl, rfl⟩
  · rw [if_neg (by omega), if_pos h]
    have h' : ¬ x < y := by omega
    go_enter Try.func80, Try.ntmps80
    go_wp2_with (first | (go_at_call 91; go_in) | go_back)
    go_ret
    exact ⟨rfl, rfl⟩
theorem rev_take {n k : Nat} (h : k < n) : (List.finRange n).reverse.take (k + 1) = (List.finRange n).reverse.take k ++ [⟨n - 1 - k, by omega⟩] := by
  rw [List.take_succ_eq_append_getElem (by simp; exact h)]
  congr 1
  simp [List.getElem_reverse]
theorem rev_take_length {n k : Nat} (h : k ≤ n) : ((List.finRange n).reverse.take k).length = k := by simp; omega
set_option maxRecDepth 100000 in
set_option maxHeartbeats 2000000 in
/-- slices.Backward's closure over limbs -/
theorem back1_in (F : Fence) (nn : Nat) (h9 : F.fn 92) (hro : F.round = none) (hn : 1 ≤ nn) (l Bs n₀ : Nat) (A : Option Addr) (n cap : Nat) (f : Nat → Nat) (hreach : n ≤ 35184372088832) (J Jx : List (Fin n) → World → Prop)
    (hY : ∀ pre (x : Fin n) W, J pre W → pre.length < n → YieldAt F (nn - 1) Try.prog l #[.int .i64 ((x.val : Nat) : Int), .int .u32 ((f x.val : Nat) : Int)] W fun e W' =>
      (e = .returned (.bool true) ∧ J (pre ++ [x]) W' ∧ Below n₀ W W') ∨ (e = .returned (.bool false) ∧ Jx (pre ++ [x]) W'))
    (W : World) (hBs : Bs < n₀) (hBc : W.cell? ⟨Bs, 0, none⟩ = some (.slice A n cap)) (hc : 0 < n → ∃ b o, A = some ⟨b, o, none⟩ ∧ b < n₀ ∧ ∀ j, j < n → W.cell? ⟨b, o + j, none⟩ = some (.int .u32 ((f j : Nat) : Int))) (h0 : J [] W) :
    CallsIn F nn Try.prog 92 #[.func (.yield l) #[] #[], .pointer (some ⟨Bs, 0, none⟩)] W fun e W' => (∃ v, e = .returned v) ∧
      ((∃ ys, ys = (List.finRange n).reverse ∧ J ys W') ∨ (∃ pre, (∃ k, k ≤ n ∧ pre = (List.finRange n).reverse.take k) ∧ Jx pre W')) := by
  refine callsIn_of_wp Try.func92 rfl h9 ?_ hro
  simp only [Try.ntmps92, List.size_toArray, List.length_cons, List.length_nil, Nat.reduceAdd, Nat.reduceSub, Array.replicate_succ, Array.replicate_zero, List.push_toArray, List.append_toArray, List.nil_append, List.cons_append]
  gi_wp2
  gi_loopw [3] (fun i wr => ∃ (k : Nat) (i' : Int), i = .int .i64 i' ∧ i' + k + 1 = n ∧ k ≤ n ∧ J ((List.finRange n).reverse.take k) wr ∧ Below n₀ W wr)
    (fun i _ => (intOf i + 1).toNat)
  case atStart => exact ⟨0, _, rfl, by omega, Nat.zero_le _, h0, Below.refl _ _⟩
  case round =>
    obtain ⟨k, i', rfl, hi, hk, hJs, hnx⟩ := hrel
    have hbx := (hnx.cell (p := ⟨Bs, 0, none⟩) hBs).trans hBc
    by_cases hlt : 0 ≤ i'
    · obtain ⟨j, rfl⟩ : ∃ j : Nat, i' = j := ⟨i'.toNat, by omega⟩
      obtain ⟨b, o, rfl, hb, hcc⟩ := hc (by omega)
      have hcx := (hnx.cell (p := ⟨b, o + j, none⟩) hb).trans (hcc j (by omega))
      have hjn : j < n := by omega
      obtain ⟨fn, tmps, assign, body, hy, hR⟩ := hY _ ⟨j, hjn⟩ wr hJs (by rw [rev_take_length hk]; omega)
      dsimp only at hy
      have hE : (List.finRange n).reverse.take (k + 1) = (List.finRange n).reverse.take k ++ [⟨j, hjn⟩] := by
        rw [rev_take (by omega)]
        congr 3
        omega
      have HE := Lib.hid hE
      clear hE hcc hc
      have HI := Lib.hid hi
      have hi1 : j + k < n := by omega
      have hi2 : (j : Int) + k + 1 ≤ n := by omega
      clear hi
      have hjj : ((j : Int) ≥ 0) := by omega
      gi_wp2
      refine hR.mono ?_
      rintro e W3 (⟨rfl, hJ3, hk3⟩ | ⟨rfl, hJx3⟩)
      · gi_wp2
        go_roundw
        case rel => exact ⟨k + 1, _, rfl, by have := HI.out; omega, by omega, by rw [HE.out]; exact hJ3, hnx.trans hk3⟩
        case measure => first | (simp [intOf]; done) | (simp [intOf]; omega)
      · gi_wp2
        refine bodyPost_ret (results_none rfl _ _ _) rfl ?_
        exact ⟨⟨_, rfl⟩, .inr ⟨_, ⟨k + 1, by omega, HE.out.symm⟩, hJx3⟩⟩
    · obtain rfl : k = n := by omega
      obtain rfl : i' = -1 := by omega
      gi_wp2
      go_end0
      rw [List.take_of_length_le (by simp)] at hJs
      first | exact ⟨⟨_, rfl⟩, .inl ⟨_, rfl, hJs⟩⟩ | exact ⟨⟨_, rfl⟩, .inl hJs⟩
end Go.Proofs.Ytfifcpgjcgoinaa
