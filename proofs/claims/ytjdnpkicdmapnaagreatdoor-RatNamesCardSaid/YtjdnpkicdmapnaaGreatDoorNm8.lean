/- Plain facts and contracts of functions of the program, out of walks. Their conditions stand ahead of each. -/
import Derived.Test.YtjdnpkicdmapnaaGreatDoorNm1
import Derived.Test.YtjdnpkicdmapnaaGreatDoorNm7
import Derived.Test.YtjdnpkicdmapnaaGreatDoorShelf
import Derived.Below
import Derived.BigQuiet
import Derived.Deep.Draws
import Derived.Deep.QuietTactic
import Derived.Deep.RegionHeld3
import Derived.Laws.NewBlocks
import Derived.Laws.OwnMore
import Derived.Laws.Pointers
import Derived.Laws.Rows
import Derived.Lib.BitFns
import Derived.Lib.Hide
import Derived.Lib.ItoaNum
import Derived.RowKit3
import Derived.StillTactics
import Derived.StillTailTactics
import Derived.Test.YtjdnpkicdmapnaaGreatDoorProg
import Derived.WalkKit
import Derived.WalkLawsBesides
import Derived.WalkSpells
set_option linter.unusedVariables false
set_option linter.unusedSimpArgs false
set_option exponentiation.threshold 10000
namespace Go.Proofs.YtjdnpkicdmapnaaGreatDoor
open Go.RowKit GW NL
/-- a number and an error -/
def RNE (r : Nat × Int) (w : World) (e : Ending) (w' : World) : Prop := ∃ A c F, e = .returned (.tuple #[.slice A (limbs r.1).length c, .int .i64 r.2]) ∧ F.Sl A c (limbs r.1) ∧ New w w' F
theorem rne_err {w0 : World} {M : List Blk} {I : List Frag} (g : G w0 [] M I) (x : Int) : RNE (0, x) w0 (.returned (.tuple #[.slice none 0 0, .int .i64 x])) g.w :=
  ⟨none, 0, _, by simp only [limbs_zero]; rfl, by simp only [limbs_zero]; exact Frag.Sl.nil _ _, g.none⟩
theorem rne_pass {w0 : World} {M : List Blk} {I : List Frag} (g : G w0 [] M I) {A : Option Addr} {c v : Nat} {F : Frag} (hs : F.Sl A c (limbs v)) (hF : F ∈ I) (hn : ∀ k o, F k = some o → w0.heap.size ≤ k) (x : Int) : RNE (v, x) w0 (.returned (.tuple #[.slice A (limbs v).length c, .int .i64 x])) g.w :=
  ⟨A, c, F, rfl, hs, g.pass hF hn⟩
theorem val_trimmed (v : Nat) : limbs (val (limbs v)) = limbs v := by rw [val_limbs]
theorem fits_yes (A : Option Addr) (c : Nat) (v : Nat) (w : World) (h : SlW w A c (limbs v)) (hv : v < 2 ^ 8192) :
    Calls Tryz.prog 152 #[.slice A (limbs v).length c] w fun e w' => e = .returned (.tuple #[.slice A (limbs v).length c, .int .i64 0]) ∧ Below w.heap.size w w' := by
  have hl : (limbs v).length ≤ 256 := (limbs_len v 256).2 (by rw [pow32]; exact hv)
  have C := Lib.hid (trim_any A c (limbs v) w h)
  rw [val_limbs] at C
  clear hv h
  generalize (limbs v).length = n at *
  go_enter Tryz.func152, Tryz.ntmps152
  go_wp2_with fail
  refine C.out.mono ?_
  rintro e w1 ⟨rfl, hb⟩
  go_wp2_with fail
  go_ret2
  exact ⟨rfl, hb⟩
theorem fits_no (A : Option Addr) (c : Nat) (v : Nat) (w : World) (h : SlW w A c (limbs v)) (hv : ¬ v < 2 ^ 8192) :
    Calls Tryz.prog 152 #[.slice A (limbs v).length c] w fun e w' => e = .returned (.tuple #[.slice none 0 0, .int .i64 5]) ∧ Below w.heap.size w w' := by
  have hl : ¬ (limbs v).length ≤ 256 := fun hh => hv (by rw [← show 4294967296 ^ 256 = 2 ^ 8192 by rw [pow32]]; exact (limbs_len v 256).1 hh)
  have C := Lib.hid (trim_any A c (limbs v) w h)
  rw [val_limbs] at C
  have hmx := h.len
  have hmxx := h.max
  have hcp := h.cap
  clear hv h
  generalize (limbs v).length = n at *
  go_enter Tryz.func152, Tryz.ntmps152
  go_wp2_with fail
  refine C.out.mono ?_
  rintro e w1 ⟨rfl, hb⟩
  go_wp2_with fail
  go_ret2
  exact ⟨rfl, hb⟩
/-- the first error of two lists -/
def chk2 (l1 l2 : List Nat) : Int := if chk l1 ≠ 0 then chk l1 else chk l2
end Go.Proofs.YtjdnpkicdmapnaaGreatDoor
namespace Go.Proofs.YtjdnpkicdmapnaaGreatDoor
open Go.RowKit GW NL
/-- what a call returns: an error ahead, or the number if it fits -/
def outN (e : Int) (v : Nat) : Nat × Int := if e ≠ 0 then (0, e) else if v < 2 ^ 8192 then (v, 0) else (0, 5)
end Go.Proofs.YtjdnpkicdmapnaaGreatDoor
namespace Go.Proofs.YtjdnpkicdmapnaaGreatDoor
open Go.RowKit GW NL
theorem two_limbs (n : Nat) (h : n < 9223372036854775808) : val [n % 4294967296, n / 4294967296] = n ∧ Ok [n % 4294967296, n / 4294967296] := by
  refine ⟨by simp [val]; omega, ?_⟩
  intro x hx
  simp at hx
  omega
end Go.Proofs.YtjdnpkicdmapnaaGreatDoor
