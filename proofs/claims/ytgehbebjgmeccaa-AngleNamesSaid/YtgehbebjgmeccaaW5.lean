/- Contracts of functions of the program and of its reference, out of walks. Their conditions stand ahead of each. -/
import Derived.Test.YtgehbebjgmeccaaW4
set_option linter.unusedVariables false
set_option linter.unusedSimpArgs false
namespace Go.Proofs.Ytgehbebjgmeccaa
open Go.RowKit
theorem pB_le {x y : Int} (hm : ∀ k : Int, 0 ≤ k → k < 16 → pB k x y = true → pB (k + 1) x y = true) (n : Nat) (t : Int) (t0 : 0 ≤ t) (tn : t + n ≤ 16) (h : pB t x y = true) : pB (t + n) x y = true := by
  induction n with
  | zero => simpa using h
  | succ n ih =>
    have := hm (t + n) (by omega) (by omega) (ih (by omega))
    rwa [show t + (n : Int) + 1 = t + ((n + 1 : Nat) : Int) from by omega] at this
def Found (x y : Int) (w : World) (e : Ending) (w' : World) : Prop := (∃ k : Int, e = .returned (.int .i64 k) ∧ 0 ≤ k ∧ k ≤ 16 ∧ (∀ t, 0 ≤ t → t < k → pB t x y = false) ∧ (k < 16 → pB k x y = true)) ∧ Below w.heap.size w w'
theorem search_any (x y : Int) (b : Nat) (hx : -70368744177664 ≤ x ∧ x ≤ 70368744177664) (hy : -70368744177664 ≤ y ∧ y ≤ 70368744177664) (w : World)
    (c0 : w.cell? ⟨b, 0, none⟩ = some (.int .i64 x)) (c1 : w.cell? ⟨b, 1, none⟩ = some (.int .i64 y)) (hbs : b < w.heap.size) (hmono : ∀ k : Int, 0 ≤ k → k < 16 → pB k x y = true → pB (k + 1) x y = true) :
    Calls Try.prog 172 #[.int .i64 16, .func (.func 173) #[] #[.pointer (some ⟨b, 0, none⟩)]] w (Found x y w) := by
  have HM := Lib.hid hmono
  clear hmono
  go_enter Try.func172, Try.ntmps172
  go_wp2_with fail
  go_loopw [5, 6] (fun u v wr => ∃ i j : Int, u = .int .i64 i ∧ v = .int .i64 j ∧ 0 ≤ i ∧ i ≤ j ∧ j ≤ 16 ∧ (∀ t, 0 ≤ t → t < i → pB t x y = false) ∧ (j < 16 → pB j x y = true) ∧ Below w.heap.size w wr) (fun u v _ => (intOf v - intOf u).toNat)
  case atStart => exact ⟨0, 16, rfl, rfl, by omega, by omega, by omega, fun t h0 h1 => by omega, fun h => by omega, Below.refl _ _⟩
  case round =>
    obtain ⟨i, j, rfl, rfl, i0, ij, j1, hlo, hhi, hb⟩ := hrel
    have HL := Lib.hid hlo
    have HH := Lib.hid hhi
    clear hlo hhi
    obtain ⟨gc, gf⟩ := bcell hb
    have d0 := (gc b 0 hbs).trans c0
    have d1 := (gc b 1 hbs).trans c1
    have hbr : b < wr.heap.size := Nat.lt_of_lt_of_le hbs hb.size
    clear gc gf
    by_cases hlt : i < j
    · go_wp2_with fail
      have k0 : 0 ≤ (i + j) / 2 := by omega
      have k1 : i ≤ (i + j) / 2 := by omega
      have k2 : (i + j) / 2 < j := by omega
      cases hp : pB ((i + j) / 2) x y
      · refine (closure_any _ x y b (by omega) (by omega) hx hy _ d0 d1 hbr).mono ?_
        rintro e w1 ⟨rfl, hb1⟩
        have HP := Lib.hid hp
        rw [hp]
        clear hp
        go_wp2_with fail
        refine ⟨⟨_, _, rfl, rfl, by omega, by omega, by omega, ?_, HH.out, hb.trans (hb1.mono hb.size)⟩, by simp [intOf]; omega⟩
        intro t t0 t1
        cases ht : pB t x y
        · rfl
        · exact absurd (pB_le HM.out ((i + j) / 2 - t).toNat t t0 (by omega) ht) (by rw [show t + (((i + j) / 2 - t).toNat : Int) = (i + j) / 2 from by omega, HP.out]; simp)
      · refine (closure_any _ x y b (by omega) (by omega) hx hy _ d0 d1 hbr).mono ?_
        rintro e w1 ⟨rfl, hb1⟩
        have HP := Lib.hid hp
        rw [hp]
        clear hp
        go_wp2_with fail
        exact ⟨⟨_, _, rfl, rfl, by omega, by omega, by omega, HL.out, fun _ => HP.out, hb.trans (hb1.mono hb.size)⟩, by simp [intOf]; omega⟩
    · go_wp2
      have hij : j = i := by omega
      subst hij
      go_ret
      exact ⟨⟨_, rfl, i0, j1, HL.out, HH.out⟩, hb⟩
end Go.Proofs.Ytgehbebjgmeccaa
