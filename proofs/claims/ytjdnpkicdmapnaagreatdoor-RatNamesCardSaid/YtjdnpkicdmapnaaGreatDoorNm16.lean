/- Plain facts and contracts of functions of the program, out of walks. Their conditions stand ahead of each. -/
import Derived.Test.YtjdnpkicdmapnaaGreatDoorNm1
import Derived.Test.YtjdnpkicdmapnaaGreatDoorNm15
import Derived.Below
import Derived.BigQuiet
import Derived.Deep.Draws
import Derived.Deep.QuietTactic
import Derived.Deep.RegionHeld3
import Derived.Laws.NewBlocks
import Derived.Laws.OwnMore
import Derived.Laws.Pointers
import Derived.Laws.Rows
import Derived.Lib.BitFns
import Derived.Lib.Hide
import Derived.Lib.ItoaNum
import Derived.LoopIn
import Derived.LoopNIn
import Derived.OwnWalkIn
import Derived.RangeFuncBound
import Derived.RangeFuncBox
import Derived.RangeFuncCalls
import Derived.RangeFuncLeaves
import Derived.RangeFuncNested
import Derived.RowKit3
import Derived.Shelf.Abstract
import Derived.Shelf.RegionOpen
import Derived.StillTactics
import Derived.StillTailTactics
import Derived.TacticsInMore
import Derived.Test.YtjdnpkicdmapnaaGreatDoorProg
import Derived.WalkKit
import Derived.WalkLawsBesides
import Derived.WalkSpells
set_option linter.unusedVariables false
set_option linter.unusedSimpArgs false
namespace Go.Proofs.YtjdnpkicdmapnaaGreatDoor
open Go.RowKit GW NL
theorem down_zero {l : List Nat} (hk : Ok l) {m : Nat} (h : l.length ≤ m / 32) : val l / 2 ^ m = 0 := by
  apply Nat.div_eq_of_lt
  have h1 := val_lt hk
  rw [pow32] at h1
  exact Nat.lt_of_lt_of_le h1 (Nat.pow_le_pow_right (by decide) (by omega))
end Go.Proofs.YtjdnpkicdmapnaaGreatDoor
namespace Go.Proofs.YtjdnpkicdmapnaaGreatDoor
open Go.RowKit GW NL Go.Shelf
attribute [local go_sem] Oper.semAt_some
set_option maxRecDepth 100000 in
set_option maxHeartbeats 2000000 in
/-- slices.Backward's closure over limbs; the body keeps what Kp says -/
theorem back1_k (F : Fence) (nn : Nat) (h9 : F.fn 145) (hro : F.round = none) (hn : 1 ≤ nn) (l Bs : Nat) (Kp : World → World → Prop) (hKr : ∀ W, Kp W W) (hKt : ∀ {A B C}, Kp A B → Kp B C → Kp A C) (A : Option Addr) (n cap : Nat) (f : Nat → Nat) (hreach : n ≤ 35184372088832) (hKc : ∀ {W W'}, Kp W W' → W'.cell? ⟨Bs, 0, none⟩ = W.cell? ⟨Bs, 0, none⟩ ∧ ∀ b o, A = some ⟨b, o, none⟩ → ∀ j, j < n → W'.cell? ⟨b, o + j, none⟩ = W.cell? ⟨b, o + j, none⟩) (J Jx : List (Fin n) → World → Prop)
    (hY : ∀ pre (x : Fin n) W, J pre W → pre.length < n → YieldAt F (nn - 1) Tryz.prog l #[.int .i64 ((x.val : Nat) : Int), .int .u32 ((f x.val : Nat) : Int)] W fun e W' =>
      (e = .returned (.bool true) ∧ J (pre ++ [x]) W' ∧ Kp W W') ∨ (e = .returned (.bool false) ∧ Jx (pre ++ [x]) W'))
    (W : World) (hBc : W.cell? ⟨Bs, 0, none⟩ = some (.slice A n cap)) (hc : 0 < n → ∃ b o, A = some ⟨b, o, none⟩ ∧ ∀ j, j < n → W.cell? ⟨b, o + j, none⟩ = some (.int .u32 ((f j : Nat) : Int))) (h0 : J [] W) :
    CallsIn F nn Tryz.prog 145 #[.func (.yield l) #[] #[], .pointer (some ⟨Bs, 0, none⟩)] W fun e W' => (∃ v, e = .returned v) ∧
      ((∃ ys, ys = (List.finRange n).reverse ∧ J ys W') ∨ (∃ pre, (∃ k, k ≤ n ∧ pre = (List.finRange n).reverse.take k) ∧ Jx pre W')) := by
  refine callsIn_of_wp Tryz.func145 rfl h9 ?_ hro
  simp only [Tryz.ntmps145, List.size_toArray, List.length_cons, List.length_nil, Nat.reduceAdd, Nat.reduceSub, Array.replicate_succ, Array.replicate_zero, List.push_toArray, List.append_toArray, List.nil_append, List.cons_append]
  gi_wp2
  gi_loopw [3] (fun i wr => ∃ (k : Nat) (i' : Int), i = .int .i64 i' ∧ i' + k + 1 = n ∧ k ≤ n ∧ J ((List.finRange n).reverse.take k) wr ∧ Kp W wr)
    (fun i _ => (intOf i + 1).toNat)
  case atStart => exact ⟨0, _, rfl, by omega, Nat.zero_le _, h0, hKr _⟩
  case round =>
    obtain ⟨k, i', rfl, hi, hk, hJs, hnx⟩ := hrel
    have hbx := (hKc hnx).1.trans hBc
    by_cases hlt : 0 ≤ i'
    · obtain ⟨j, rfl⟩ : ∃ j : Nat, i' = j := ⟨i'.toNat, by omega⟩
      obtain ⟨b, o, rfl, hcc⟩ := hc (by omega)
      have hcx := ((hKc hnx).2 b o rfl j (by omega)).trans (hcc j (by omega))
      have hjn : j < n := by omega
      obtain ⟨fn, tmps, assign, body, hy, hR⟩ := hY _ ⟨j, hjn⟩ wr hJs (by rw [rev_take_length hk]; omega)
      dsimp only at hy
      have hE : (List.finRange n).reverse.take (k + 1) = (List.finRange n).reverse.take k ++ [⟨j, hjn⟩] := by
        rw [rev_take (by omega)]
        congr 3
        omega
      have HE := Lib.hid hE
      clear hE hcc hc
      have HI := Lib.hid hi
      have hi1 : j + k < n := by omega
      have hi2 : (j : Int) + k + 1 ≤ n := by omega
      clear hi
      have hjj : ((j : Int) ≥ 0) := by omega
      gi_wp2
      refine hR.mono ?_
      rintro e W3 (⟨rfl, hJ3, hk3⟩ | ⟨rfl, hJx3⟩)
      · gi_wp2
        go_roundw
        case rel => exact ⟨k + 1, _, rfl, by have := HI.out; omega, by omega, by rw [HE.out]; exact hJ3, hKt hnx hk3⟩
        case measure => first | (simp [intOf]; done) | (simp [intOf]; omega)
      · gi_wp2
        refine bodyPost_ret (results_none rfl _ _ _) rfl ?_
        exact ⟨⟨_, rfl⟩, .inr ⟨_, ⟨k + 1, by omega, HE.out.symm⟩, hJx3⟩⟩
    · obtain rfl : k = n := by omega
      obtain rfl : i' = -1 := by omega
      gi_wp2
      go_end0
      rw [List.take_of_length_le (by simp)] at hJs
      first | exact ⟨⟨_, rfl⟩, .inl ⟨_, rfl, hJs⟩⟩ | exact ⟨⟨_, rfl⟩, .inl hJs⟩
theorem div32_any (hi lo d : Nat) (h1 : hi < d) (h2 : lo < 4294967296) (h3 : d < 4294967296) (w : World) :
    Calls Tryz.prog 127 #[.int .u32 hi, .int .u32 lo, .int .u32 d] w fun e w' => e = .returned (.tuple #[.int .u32 (((hi * 4294967296 + lo) / d : Nat) : Int), .int .u32 (((hi * 4294967296 + lo) % d : Nat) : Int)]) ∧ Below w.heap.size w w' := by
  refine calls_g fun g => ?_
  have hor : bits .or .u64 ((hi : Int) * 4294967296) (lo : Int) = ((hi * 4294967296 + lo : Nat) : Int) := by
    rw [show (hi : Int) * 4294967296 = ((hi * 4294967296 : Nat) : Int) by omega, K3.or64_comm, K3.or64_add _ _ 32 (by omega) (by omega) (by omega) (by omega)]
  have ht : hi * 4294967296 + lo < 18446744073709551616 := by omega
  have hq : (hi * 4294967296 + lo) / d < 4294967296 := by
    apply Nat.div_lt_of_lt_mul
    have := Nat.mul_le_mul_right 4294967296 (Nat.succ_le_of_lt h1)
    rw [Nat.succ_mul] at this
    omega
  have hr : (hi * 4294967296 + lo) % d < d := Nat.mod_lt _ (by omega)
  obtain ⟨t, htt⟩ : ∃ t, hi * 4294967296 + lo = t := ⟨_, rfl⟩
  rw [htt] at hor ht hq hr ⊢
  clear htt
  have e1 : Int.tdiv (t : Int) (d : Int) = ((t / d : Nat) : Int) := by rw [Int.tdiv_eq_ediv_of_nonneg (by omega)]; exact (Int.natCast_ediv t d).symm
  have e2 : Int.tmod (t : Int) (d : Int) = ((t % d : Nat) : Int) := by rw [Int.tmod_eq_emod_of_nonneg (by omega)]; exact (Int.natCast_emod t d).symm
  generalize t / d = q at *
  generalize t % d = r at *
  have hd0 : ((d : Int) == 0) = false := by rw [beq_eq_false_iff_ne]; omega
  have hd1 : ¬ ((d : Int) ≤ (hi : Int)) := by omega
  have hd2 : ((d : Int) = 0) = False := by rw [eq_iff_iff, iff_false]; omega
  have hwd : IntKind.u64.wrap (d : Int) = (d : Int) := by rw [IntKind.wrap_u64]; omega
  have hwq : IntKind.u64.wrap (q : Int) = (q : Int) := by rw [IntKind.wrap_u64]; omega
  have hwr : IntKind.u64.wrap (r : Int) = (r : Int) := by rw [IntKind.wrap_u64]; omega
  have hvq : IntKind.u32.wrap (q : Int) = (q : Int) := by rw [IntKind.wrap_u32]; omega
  have hvr : IntKind.u32.wrap (r : Int) = (r : Int) := by rw [IntKind.wrap_u32]; omega
  go_enter Tryz.func127, Tryz.ntmps127
  go_wp2_with (with_reducible refine G.any_mark _ ?_; (try generalize Array.size (World.heap (G.w _)) = bk); (try dsimp only [List.set_cons_zero, List.set_cons_succ]); (try clear g); intro g)
  go_region_held3 (fun _ => True) (trivial) (fail)
  ((try simp only [G.drew_eq, G.drewN_eq]); (refine G.any_mark _ ?_; (try generalize Array.size (World.heap (G.w _)) = bk); (try dsimp only [List.set_cons_zero, List.set_cons_succ]); (try clear g); intro g))
  go_wp2_with (with_reducible refine G.any_mark _ ?_; (try generalize Array.size (World.heap (G.w _)) = bk); (try dsimp only [List.set_cons_zero, List.set_cons_succ]); (try clear g); intro g)
  go_ret2
  exact ⟨rfl, G.below _⟩
end Go.Proofs.YtjdnpkicdmapnaaGreatDoor
