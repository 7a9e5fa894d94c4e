/- Plain facts on wide numbers. No conditions. -/
import Derived.Test.YtgehbebjgmeccaaK2
set_option linter.unusedVariables false
set_option linter.unusedSimpArgs false
namespace Go.Proofs.Ytgehbebjgmeccaa.Fx
open Go Go.RowKit
def in128 (s : Int) : Prop := -170141183460469231731687303715884105728 ≤ s ∧ s ≤ 170141183460469231731687303715884105727
open Classical in
noncomputable def ovE (s : Int) : Int := if in128 s then 0 else 5
open Classical in
noncomputable def ovH (s : Int) : Int := if in128 s then s / 18446744073709551616 else 0
open Classical in
noncomputable def ovL (s : Int) : Int := if in128 s then s % 18446744073709551616 else 0
theorem ov_yes {s : Int} (h : in128 s) : ovE s = 0 ∧ ovH s = s / 18446744073709551616 ∧ ovL s = s % 18446744073709551616 := by unfold ovE ovH ovL; rw [if_pos h, if_pos h, if_pos h]; exact ⟨rfl, rfl, rfl⟩
theorem ov_no {s : Int} (h : ¬ in128 s) : ovE s = 5 ∧ ovH s = 0 ∧ ovL s = 0 := by unfold ovE ovH ovL; rw [if_neg h, if_neg h, if_neg h]; exact ⟨rfl, rfl, rfl⟩
/-- the word of a wide number -/
def R64 (a : Int) : Prop := -9223372036854775808 ≤ a ∧ a ≤ 9223372036854775807
def U64 (a : Int) : Prop := 0 ≤ a ∧ a < 18446744073709551616
def wd (a b : Int) : Int := a * 18446744073709551616 + b
theorem plus_plain (a0 a1 b0 b1 c r H : Int) (h1 : R64 a0) (h2 : U64 a1) (h3 : R64 b0) (h4 : U64 b1) (hc : c = (a1 + b1) / 18446744073709551616) (hr : r = (a1 + b1) % 18446744073709551616) (hH : H = wrap64 (wrap64 (a0 + b0) + c)) :
    R64 H ∧ 0 ≤ c ∧ c ≤ 1 ∧ (((¬ (a0 < 0 ↔ H < 0)) ∧ (¬ (b0 < 0 ↔ H < 0))) ↔ ¬ in128 (wd a0 a1 + wd b0 b1)) ∧ (in128 (wd a0 a1 + wd b0 b1) → H = (wd a0 a1 + wd b0 b1) / 18446744073709551616 ∧ r = (wd a0 a1 + wd b0 b1) % 18446744073709551616) := by
  unfold R64 U64 in128 wd wrap64 at *
  refine ⟨by omega, by omega, by omega, ?_, fun h => ⟨by omega, by omega⟩⟩
  constructor
  · intro h; omega
  · intro h; omega
theorem minus_plain (a0 a1 b0 b1 c r H : Int) (h1 : R64 a0) (h2 : U64 a1) (h3 : R64 b0) (h4 : U64 b1) (hc : c = if a1 < b1 then 1 else 0) (hr : r = (a1 - b1) % 18446744073709551616) (hH : H = wrap64 (wrap64 (a0 - b0) - c)) :
    R64 H ∧ 0 ≤ c ∧ c ≤ 1 ∧ (((¬ (a0 < 0 ↔ b0 < 0)) ∧ (¬ (a0 < 0 ↔ H < 0))) ↔ ¬ in128 (wd a0 a1 - wd b0 b1)) ∧ (in128 (wd a0 a1 - wd b0 b1) → H = (wd a0 a1 - wd b0 b1) / 18446744073709551616 ∧ r = (wd a0 a1 - wd b0 b1) % 18446744073709551616) := by
  unfold R64 U64 in128 wd wrap64 at *
  split at hc <;> refine ⟨by omega, by omega, by omega, ?_, fun h => ⟨by omega, by omega⟩⟩ <;> constructor <;> intro h <;> omega
theorem ov_w {s : Int} (h : in128 s) : R64 (ovH s) ∧ U64 (ovL s) ∧ wd (ovH s) (ovL s) = s ∧ ovE s = 0 := by
  have e := ov_yes h
  rw [e.1, e.2.1, e.2.2]
  unfold R64 U64 wd in128 at *
  refine ⟨by omega, by omega, by omega, rfl⟩
theorem wd_dm (p : Int) : wd (p / 18446744073709551616) (p % 18446744073709551616) = p := by unfold wd; omega
theorem dm_rng {p : Int} (h : in128 p) : R64 (p / 18446744073709551616) ∧ U64 (p % 18446744073709551616) := by unfold R64 U64 in128 at *; omega
theorem ov_of {A B : Int} (hA : R64 A) (hB : U64 B) : in128 (wd A B) ∧ ovH (wd A B) = A ∧ ovL (wd A B) = B ∧ ovE (wd A B) = 0 := by
  have h : in128 (wd A B) := by unfold R64 U64 wd in128 at *; omega
  have e := ov_yes h
  refine ⟨h, ?_, ?_, e.1⟩
  · rw [e.2.1]; unfold R64 U64 wd at *; omega
  · rw [e.2.2]; unfold R64 U64 wd at *; omega
open Classical in
noncomputable def nwE (s : Int) : Int := if R64 s then 0 else 5
open Classical in
noncomputable def nwV (s : Int) : Int := if R64 s then s else 0
theorem nw_yes {s : Int} (h : R64 s) : nwE s = 0 ∧ nwV s = s := by unfold nwE nwV; rw [if_pos h, if_pos h]; exact ⟨rfl, rfl⟩
theorem nw_no {s : Int} (h : ¬ R64 s) : nwE s = 5 ∧ nwV s = 0 := by unfold nwE nwV; rw [if_neg h, if_neg h]; exact ⟨rfl, rfl⟩
theorem narrow_plain (a b : Int) (h1 : R64 a) (h2 : U64 b) : (a = wrap64 b / 9223372036854775808 ↔ R64 (wd a b)) ∧ (R64 (wd a b) → wrap64 b = wd a b) ∧ ((a = 0 ∧ 0 ≤ wrap64 b) ∨ (a = -1 ∧ wrap64 b < 0) ↔ R64 (wd a b)) := by
  unfold R64 U64 wd wrap64 at *
  refine ⟨⟨fun h => by omega, fun h => by omega⟩, fun h => by omega, ⟨fun h => by omega, fun h => by omega⟩⟩
theorem sq_in (x : Int) (h : R64 x) : 0 ≤ x * x ∧ x * x ≤ 85070591730234615865843651857942052864 := by
  unfold R64 at h
  by_cases g : 0 ≤ x
  · refine ⟨Int.mul_nonneg g g, ?_⟩
    have := Int.mul_le_mul (show x ≤ 9223372036854775808 by omega) (show x ≤ 9223372036854775808 by omega) g (by omega)
    omega
  · have e : x * x = (-x) * (-x) := by rw [Int.neg_mul_neg]
    rw [e]
    refine ⟨Int.mul_nonneg (by omega) (by omega), ?_⟩
    have := Int.mul_le_mul (show -x ≤ 9223372036854775808 by omega) (show -x ≤ 9223372036854775808 by omega) (by omega) (by omega)
    omega
end Go.Proofs.Ytgehbebjgmeccaa.Fx
