/- Plain facts and contracts of functions of the program, out of walks. Their conditions stand ahead of each. -/
import Derived.Test.YtodigegjngnknaaDe20
import Derived.Test.YtodigegjngnknaaDe23
import Derived.Below
import Derived.BigQuiet
import Derived.Deep.Draws
import Derived.Deep.LoopGhost
import Derived.Deep.QuietTactic
import Derived.Deep.RegionHeld3
import Derived.Laws.CopyOwn
import Derived.Laws.NewBlocks
import Derived.Laws.OwnMore
import Derived.Laws.Pointers
import Derived.Laws.Rows
import Derived.Lib.BitFns
import Derived.Lib.Hide
import Derived.Lib.ItoaNum
import Derived.LoopIn
import Derived.LoopNIn
import Derived.Maps.AppendAt
import Derived.OrdersIn
import Derived.OwnWalk
import Derived.OwnWalkIn
import Derived.RangeFuncBound
import Derived.RangeFuncBox
import Derived.RangeFuncCalls
import Derived.RangeFuncLeaves
import Derived.RangeFuncNested
import Derived.RowKit3
import Derived.Shelf.Abstract
import Derived.Shelf.RegionOpen
import Derived.StillTactics
import Derived.StillTailTactics
import Derived.TacticsInMore
import Derived.Test.YtodigegjngnknaaProg
import Derived.WalkKit
import Derived.WalkLawsBesides
import Derived.WalkMore
import Derived.WalkSpells
set_option linter.unusedVariables false
set_option linter.unusedSimpArgs false
namespace Go.Proofs.Ytodigegjngnknaa
open Go.RowKit GW NL
theorem divide_less (A1 A2 : Option Addr) (c1 c2 a b : Nat) (w : World) (h1 : SlW w A1 c1 (limbs a)) (h2 : SlW w A2 c2 (limbs b)) (hl1 : (limbs a).length ≤ 100000000) (hab : a < b) :
    Calls Try.prog 81 #[.slice A1 (limbs a).length c1, .slice A2 (limbs b).length c2] w (RNN (a / b) (a % b) w) := by
  refine calls_b fun g => ?_
  rw [Nat.div_eq_of_lt hab, Nat.mod_eq_of_lt hab]
  have hord : ord a b = -1 := by unfold ord; rw [if_pos hab]
  have C1 := Lib.hid (fun w h1 h2 => compare_any A1 A2 c1 c2 a b w h1 h2 (by omega))
  rw [hord] at C1
  have C2 := Lib.hid (fun w h => clone_any A1 c1 (limbs a) w h (by omega))
  clear hord hab
  go_enter Try.func81, Try.ntmps81
  go_wp2_with (with_reducible refine G.any_mark _ ?_; (try generalize Array.size (World.heap (G.w _)) = bk); (try dsimp only [List.set_cons_zero, List.set_cons_succ]); (try clear g); intro g)
  go_step3
  go_wp2_with (with_reducible refine G.any_mark _ ?_; (try generalize Array.size (World.heap (G.w _)) = bk); (try dsimp only [List.set_cons_zero, List.set_cons_succ]); (try clear g); intro g)
  refine (C1.out _ (G.sl g (by simp) h1) (G.sl g (by simp) h2)).mono ?_
  rintro e w1 ⟨rfl, hb⟩
  obtain ⟨g1, rfl⟩ := G.call_ex _ hb
  clear hb
  (try clear g)
  revert g1
  intro g
  go_wp2_with (with_reducible refine G.any_mark _ ?_; (try generalize Array.size (World.heap (G.w _)) = bk); (try dsimp only [List.set_cons_zero, List.set_cons_succ]); (try clear g); intro g)
  refine (C2.out _ (G.sl g (by simp) h1)).mono ?_
  rintro e w1 ⟨A, c, F, rfl, hs, hn⟩
  have hnn := fun k o hk => Nat.le_trans g.chg.size (hn.new k o hk)
  obtain ⟨g1, rfl⟩ := G.new_ex _ hn
  clear hn
  (try clear g)
  revert g1
  intro g
  go_wp2_with (with_reducible refine G.any_mark _ ?_; (try generalize Array.size (World.heap (G.w _)) = bk); (try dsimp only [List.set_cons_zero, List.set_cons_succ]); (try clear g); intro g)
  (try rw [Exit.noGoto_ret])
  go_ret2
  exact ⟨none, 0, (fun _ => none), _, _, _, by rw [limbs_zero]; rfl, by rw [limbs_zero]; exact Frag.Sl.nil _ _, hs, g.none, g.pass (by simp) hnn⟩
theorem divide_one (A1 A2 : Option Addr) (c1 c2 a b : Nat) (w : World) (h1 : SlW w A1 c1 (limbs a)) (h2 : SlW w A2 c2 (limbs b)) (hl1 : (limbs a).length ≤ 100000000) (hab : ¬ a < b) (hb : (limbs b).length = 1) :
    Calls Try.prog 81 #[.slice A1 (limbs a).length c1, .slice A2 (limbs b).length c2] w (RNN (a / b) (a % b) w) := by
  refine calls_b fun g => ?_
  have hb0 : b ≠ 0 := fun e => by rw [limbs_nil.2 e] at hb; cases hb
  have hb1 : b < 4294967296 := by have := (limbs_len b 1).1 (by omega); simpa using this
  obtain ⟨C, hC⟩ : ∃ C, C = ord a b := ⟨_, rfl⟩
  have hC0 : ¬ C < 0 := by rw [hC]; unfold ord; rw [if_neg hab]; split <;> decide
  have hC1 : (0 : Int) ≤ C := by omega
  have C1 := Lib.hid (fun w h1 h2 => compare_any A1 A2 c1 c2 a b w h1 h2 (by omega))
  rw [← hC, hb] at C1
  have C2 := Lib.hid (fun w h => small_any A1 c1 (limbs a) b w h (by omega) (by omega) hb1)
  rw [val_limbs] at C2
  have C3 := Lib.hid (fun A c w h => trim_any A c [a % b] w h)
  rw [val_single] at C3
  have hr : a % b < 4294967296 := by have := Nat.mod_lt a (show 0 < b by omega); omega
  have hokr : Ok [a % b] := Ok.cons hr Ok.nil
  obtain ⟨bb, bo, rfl, hcell⟩ := lim_cells h2.lim (by omega)
  have e0 := Lib.hid (hcell 0 (by omega))
  have hg0 : (limbs b).getD 0 0 = b := by rw [limbs_one hb0 hb1]; rfl
  rw [hg0] at e0
  clear hcell hg0
  rw [hb]
  generalize a / b = q at *
  generalize a % b = r at *
  clear hC hab hb0
  go_enter Try.func81, Try.ntmps81
  go_wp2_with (with_reducible refine G.any_mark _ ?_; (try generalize Array.size (World.heap (G.w _)) = bk); (try dsimp only [List.set_cons_zero, List.set_cons_succ]); (try clear g); intro g)
  go_step3
  go_wp2_with (with_reducible refine G.any_mark _ ?_; (try generalize Array.size (World.heap (G.w _)) = bk); (try dsimp only [List.set_cons_zero, List.set_cons_succ]); (try clear g); intro g)
  refine (C1.out _ (G.sl g (by simp) h1) (G.sl g (by simp) h2)).mono ?_
  rintro e w1 ⟨rfl, hb⟩
  obtain ⟨g1, rfl⟩ := G.call_ex _ hb
  clear hb
  (try clear g)
  revert g1
  intro g
  have e1 := e0.out _ _ _ _ g (by simp)
  rw [Nat.add_zero] at e1
  go_wp2_with (with_reducible refine G.any_mark _ ?_; (try generalize Array.size (World.heap (G.w _)) = bk); (try dsimp only [List.set_cons_zero, List.set_cons_succ]); (try clear g); intro g)
  clear e1
  refine (C2.out _ (G.sl g (by simp) h1)).mono ?_
  rintro e w1 ⟨A, c, F, rfl, hs, hn⟩
  have hnn := fun k o hk => Nat.le_trans g.chg.size (hn.new k o hk)
  obtain ⟨g1, rfl⟩ := G.new_ex _ hn
  clear hn g
  revert g1
  intro g
  go_wp2_with (with_reducible refine G.any_mark _ ?_; (try generalize Array.size (World.heap (G.w _)) = bk); (try dsimp only [List.set_cons_zero, List.set_cons_succ]); (try clear g); intro g)
  obtain ⟨g2, hg2⟩ := g.as (M' := [(bk, 82, u32s [r])]) rfl
  rw [hg2]
  clear hg2 g
  revert g2
  intro g
  have hsl : SlW g.w (some ⟨bk, 0, none⟩) 1 [r] := (sl_blk (l := [r]) (c := 1) (Nat.le_refl _) (by decide) hokr).at (blkF_sub g.blk0)
  refine (C3.out _ _ _ hsl).mono ?_
  rintro e w1 ⟨rfl, hb⟩
  obtain ⟨g1, rfl⟩ := G.call_ex _ hb
  clear hb
  (try clear g)
  revert g1
  intro g
  go_wp2_with (with_reducible refine G.any_mark _ ?_; (try generalize Array.size (World.heap (G.w _)) = bk); (try dsimp only [List.set_cons_zero, List.set_cons_succ]); (try clear g); intro g)
  (try rw [Exit.noGoto_ret])
  go_ret2
  refine ⟨_, _, _, _, _, _, rfl, hs, ?_, g.pass (by simp) hnn, g.give (List.mem_cons_self ..)⟩
  have := sl_trim (sl_blk (b := bk) (T := 82) (l := [r]) (fr := (0, 0)) (c := 1) (Nat.le_refl _) (by decide) hokr)
  rwa [val_single] at this
end Go.Proofs.Ytodigegjngnknaa
namespace Go.Proofs.Ytodigegjngnknaa
open Go.RowKit GW NL
theorem apart_of {w0 : World} {X : List Nat} {M : List Blk} {I : List Frag} (g : G w0 X M I) {F : Frag} (hF : F ∈ I) {A : Option Addr} {c : Nat} {l : List Nat} (h : F.Sl A c l) (hl : 0 < l.length) {b : Nat} (hb : b ∈ M.map (·.1)) : Apart A b := by
  obtain ⟨b', o, rfl, cs, T, fr, hf, _⟩ := h.lim hl
  intro a e
  cases e
  intro e
  exact (g.keep F hF b' _ hf).2 (by rw [show b' = b from e]; exact hb)
/-- the shift back -/
theorem shift_back (A : Option Addr) (c : Nat) (v u : Nat) (w : World) (h : SlW w A c (limbs v)) (hl : (limbs v).length ≤ 1000000000) (hu : u < 32) :
    Calls Try.prog 77 #[.slice A (limbs v).length c, .int .i64 (-(u : Int))] w (RNat (v / 2 ^ u) w) := by
  by_cases h0 : u = 0
  · subst h0
    have := shift_up A c (limbs v) 0 w h hl (by omega)
    rw [val_limbs] at this
    simpa using this
  · have := shift_down A c (limbs v) u (-(u : Int)) w h hl (by omega) (by omega) (by omega)
    rwa [val_limbs] at this
set_option maxRecDepth 20000 in
set_option maxHeartbeats 4000000 in
theorem divide_long (A1 A2 : Option Addr) (c1 c2 a b n : Nat) (w : World) (h1 : SlW w A1 c1 (limbs a)) (h2 : SlW w A2 c2 (limbs b)) (hl1 : (limbs a).length ≤ 100000000) (hab : ¬ a < b) (hb : (limbs b).length = n + 1) (hn : 1 ≤ n) :
    Calls Try.prog 81 #[.slice A1 (limbs a).length c1, .slice A2 (limbs b).length c2] w (RNN (a / b) (a % b) w) := by
  refine calls_b fun g => ?_
  have hb0 : b ≠ 0 := fun e => by rw [limbs_nil.2 e] at hb; cases hb
  obtain ⟨C, hC⟩ : ∃ C, C = ord a b := ⟨_, rfl⟩
  have hC0 : ¬ C < 0 := by rw [hC]; unfold ord; rw [if_neg hab]; split <;> decide
  have hC1 : (0 : Int) ≤ C := by omega
  have C1 := Lib.hid (fun w h1 h2 => compare_any A1 A2 c1 c2 a b w h1 h2 (by omega))
  rw [← hC] at C1
  obtain ⟨u, hue, hu, hDl, hDg⟩ := norm_up hb0 hb
  obtain ⟨bb, bo, rfl, hcell⟩ := lim_cells h2.lim (by omega)
  have e0 := Lib.hid (hcell n (by omega))
  clear hcell
  have hx := (ok_limbs b).getD n
  have CLZ := Lib.hid (fun w => Try.bits_LeadingZeros32 (((limbs b).getD n 0 : Nat) : Int) w (by omega) (by omega))
  have hnb : nb ((limbs b).getD n 0) ≤ 32 := (nb_le _ _).2 hx
  have hue2 : (32 : Int) - (nb ((limbs b).getD n 0) : Nat) = (u : Int) := by omega
  rw [show (((limbs b).getD n 0 : Nat) : Int).toNat = (limbs b).getD n 0 by omega, nb_bitLen _ hx, hue2] at CLZ
  generalize (limbs b).getD n 0 = top at *
  have hlm := limbs_len_mono (m := b) (n := a) (by omega)
  obtain ⟨la, hla⟩ : ∃ la, (limbs a).length = la := ⟨_, rfl⟩
  obtain ⟨m, hm⟩ : ∃ m, la + 1 = n + 1 + m := ⟨la - n, by omega⟩
  have CS1 := Lib.hid (fun w h => shift_up (some ⟨bb, bo, none⟩) c2 (limbs b) u w h (by omega) (by omega))
  have CS2 := Lib.hid (fun w h => shift_up A1 c1 (limbs a) u w h (by omega) (by omega))
  rw [val_limbs] at CS1 CS2
  have HLT := Lib.hid (norm_lt (a := a) (m := m) hu hDg (by omega))
  have HPD := Lib.hid (pad_limbs (a := a) hu (show (limbs a).length + 1 = la + 1 by omega))
  have HST := Lib.hid (fun r q (h : Dv (a * 2 ^ u) (b * 2 ^ u) (n + 1) m 0 r q) => h.stop (Nat.pos_of_ne_zero hb0))
  have hD0 : b * 2 ^ u ≠ 0 := Nat.ne_of_gt (Nat.mul_pos (Nat.pos_of_ne_zero hb0) (Nat.two_pow_pos u))
  have hV0 : a * 2 ^ u ≠ 0 := Nat.ne_of_gt (Nat.mul_pos (show 0 < a by omega) (Nat.two_pow_pos u))
  have hDn := Lib.hid (trim_limbs (b * 2 ^ u) n hDl)
  have hDlt := Lib.hid (val_lt (ok_limbs (b * 2 ^ u)))
  rw [val_limbs, hDl] at hDlt
  obtain ⟨V, hV⟩ : ∃ V, a * 2 ^ u = V := ⟨_, rfl⟩
  obtain ⟨D, hD⟩ : ∃ D, b * 2 ^ u = D := ⟨_, rfl⟩
  rw [hV] at CS2 HLT HPD HST hV0
  rw [hD] at CS1 HLT HST hD0 hDl hDn hDlt
  have HDL := Lib.hid hDl
  rw [hb] at C1 CS1 ⊢
  rw [hla] at C1 CS2 ⊢
  have hla8 : la ≤ 100000000 := by omega
  have hn8 : n ≤ 100000000 := by omega
  have hmk : ∀ w, (Instr.makeSlice 65 (.int .i64 ((la : Int) + 1)) (.int .i64 ((la : Int) + 1))).run Try.prog w = .ok (.slice (some ⟨w.heap.size, 0, none⟩) (la + 1) (la + 1)) (w.alloc (.cells (u32s (List.replicate (la + 1) 0)).toArray 82)) := fun w => make_nat (la + 1) (by omega) w
  have hmk2 : ∀ w, (Instr.makeSlice 65 (.int .i64 (m : Int)) (.int .i64 (m : Int))).run Try.prog w = .ok (.slice (some ⟨w.heap.size, 0, none⟩) m m) (w.alloc (.cells (u32s (List.replicate m 0)).toArray 82)) := fun w => make_nat m (by omega) w
  have hsub : (la : Int) - ((n : Int) + 1) = (m : Int) - 1 := by omega
  have HM := Lib.hid hm
  have HBL := Lib.hid hb
  have HLA := Lib.hid hla
  have ha1 : n + 1 ≤ la + 1 := by omega
  have ha2 : m ≤ la := by omega
  have HV0 := Lib.hid hV0
  have HD0 := Lib.hid hD0
  clear hC hab hb0 hnb hue hue2 hDl hDg hlm hl1 hm hb hla hV hD hV0 hD0
  go_enter Try.func81, Try.ntmps81
  go_wp2_with (with_reducible refine G.any_mark _ ?_; (try generalize Array.size (World.heap (G.w _)) = bk); (try dsimp only [List.set_cons_zero, List.set_cons_succ]); (try clear g); intro g)
  go_step3
  go_wp2_with (with_reducible refine G.any_mark _ ?_; (try generalize Array.size (World.heap (G.w _)) = bk); (try dsimp only [List.set_cons_zero, List.set_cons_succ]); (try clear g); intro g)
  refine (C1.out _ (G.sl g (by simp) h1) (G.sl g (by simp) h2)).mono ?_
  rintro e w1 ⟨rfl, hb⟩
  obtain ⟨g1, rfl⟩ := G.call_ex _ hb
  clear hb
  (try clear g)
  revert g1
  intro g
  have e1 := e0.out _ _ _ _ g (by simp)
  go_wp2_with (with_reducible refine G.any_mark _ ?_; (try generalize Array.size (World.heap (G.w _)) = bk); (try dsimp only [List.set_cons_zero, List.set_cons_succ]); (try clear g); intro g)
  refine (CLZ.out _).mono ?_
  rintro e w1 ⟨rfl, rfl⟩
  clear e1
  go_wp2_with (with_reducible refine G.any_mark _ ?_; (try generalize Array.size (World.heap (G.w _)) = bk); (try dsimp only [List.set_cons_zero, List.set_cons_succ]); (try clear g); intro g)
  refine (CS1.out _ (G.sl g (by simp) h2)).mono ?_
  rintro e w1 ⟨Ad, cd, Fd, rfl, hsd, hnw⟩
  obtain ⟨g1, rfl⟩ := G.new_ex _ hnw
  clear hnw g
  revert g1
  intro g
  rw [HDL.out]
  go_wp2_with (with_reducible refine G.any_mark _ ?_; (try generalize Array.size (World.heap (G.w _)) = bk); (try dsimp only [List.set_cons_zero, List.set_cons_succ]); (try clear g); intro g)
  refine (CS2.out _ (G.sl g (by simp) h1)).mono ?_
  rintro e w1 ⟨As, cs, Fs, rfl, hss, hnw⟩
  obtain ⟨g1, rfl⟩ := G.new_ex _ hnw
  clear hnw g
  revert g1
  intro g
  have hlv : 0 < (limbs V).length := by
    rcases Nat.eq_zero_or_pos (limbs V).length with h | h
    · exact absurd (limbs_nil.1 (List.eq_nil_of_length_eq_zero h)) HV0.out
    · exact h
  obtain ⟨bs, os, rfl, _⟩ := lim_cells hss.lim hlv
  obtain ⟨rb, rfl⟩ : ∃ rb : Nat, rb = bk := ⟨_, rfl⟩
  have hnews := Lib.hid (lim_news g (List.mem_cons_self ..) hss.lim)
  have hspl := Lib.hid (splice_u32s (List.replicate (la + 1) 0) 0 (limbs V))
  have hrow : (List.replicate (la + 1) 0).take 0 ++ (limbs V ++ (List.replicate (la + 1) 0).drop (0 + (limbs V).length)) = limbs V ++ List.replicate (la + 1 - (limbs V).length) 0 := by
    rw [List.take_zero, List.nil_append, Nat.zero_add, List.drop_replicate]
  rw [hrow] at hspl
  have hpd := HPD.out
  have HRL : Hid ((limbs V ++ List.replicate (la + 1 - (limbs V).length) 0).length = la + 1) := Lib.hid (by rw [List.length_append, List.length_replicate]; omega)
  have HRV : Hid (val (limbs V ++ List.replicate (la + 1 - (limbs V).length) 0) = V) := Lib.hid (by rw [val_pad, val_limbs])
  have HRK : Hid (Ok (limbs V ++ List.replicate (la + 1 - (limbs V).length) 0)) := Lib.hid ((ok_limbs V).append (Ok.zeros _))
  generalize limbs V ++ List.replicate (la + 1 - (limbs V).length) 0 = r0 at *
  have HCL : Hid ((u32s (limbs V)).length = min (limbs V).length (la + 1)) := Lib.hid (by rw [u32s_len]; omega)
  have HUL : Hid (0 + (u32s (limbs V)).length ≤ (u32s (List.replicate (la + 1) 0)).length) := Lib.hid (by rw [u32s_len, u32s_len, List.length_replicate]; omega)
  have h1c := Lib.hid (u32s_one (limbs V))
  have HLV := Lib.hid hlv
  clear hrow hpd hlv
  generalize u32s (limbs V) = ws at *
  generalize (limbs V).length = lv at *
  generalize u32s (List.replicate (la + 1) 0) = z0 at *
  go_wp2_with (first | (with_reducible refine G.any_mark _ ?_; (try generalize Array.size (World.heap (G.w _)) = bk); (try dsimp only [List.set_cons_zero, List.set_cons_succ]); (try clear g); intro g) | ((with_reducible show wpList _ _ _ _ _ _); refine wpList_copy_g (o := ⟨some 57, _, _, _, _, _⟩) rfl _ _ 65 65 rfl 82 Try.underlying65 (by kernel_rfl) _ _ (la + 1) (la + 1) lv cs rfl rfl g 0 rfl 0 ws HCL.out (fun _ => ⟨rfl, _, rfl, hnews.out⟩) HUL.out h1c.out ?_; clear hnews g; dsimp only [List.set_cons_zero]; intro g))
  obtain ⟨g2, hg2⟩ := g.as (by rw [hspl.out])
  rw [hg2]
  clear hg2 g
  revert g2
  intro g
  clear hmk hmk2 hspl HUL HCL HLV HPD h1c hsub
  clear hss
  go_step3
  go_wp2_with fail
  have HDV := Lib.hid (Dv.start (V := V) (D := D) (n := n + 1) (m := m) (r := r0) (by have := HRL.out; have := HM.out; omega) HRK.out HRV.out HLT.out)
  obtain ⟨qb, rfl⟩ : ∃ qb : Nat, qb = bk := ⟨_, rfl⟩
  go_loopg [12] m (fun gk s12 wr => ∃ (r q : List Nat), s12 = .int .i64 ((gk : Int) - 1) ∧ gk ≤ m ∧ Hid (Dv V D (n + 1) m gk r q) ∧ ∃ g : G w [] [(qb, 82, u32s q), (rb, 82, u32s r)] [Fs, Fd, heapOf w], wr = g.w)
  case atStart => exact ⟨r0, List.replicate m 0, rfl, Nat.le_refl _, HDV, g, rfl⟩
  case round =>
    clear g HRL HRV HRK HDV r0 HLT
    obtain ⟨r, q, rfl, hgm, DV, g, rfl⟩ := hrel
    cases gk with
    | zero =>
      have hst := HST.out r q DV.out
      have hrl := DV.out.rlen
      have hql := DV.out.qlen
      have hqo := DV.out.qok
      have hlt0 := DV.out.lt
      rw [List.drop_zero] at hlt0
      have hrv : val ((r.drop 0).take (n + 1)) = a % b * 2 ^ u := by
        rw [List.drop_zero, ← val_mod r DV.out.rok, Nat.mod_eq_of_lt (Nat.lt_trans hlt0 hDlt.out), hst.2]
      have hM := HM.out
      have CTq := Lib.hid (fun (I : List Frag) (g : G w [] [(qb, 82, u32s q), (rb, 82, u32s r)] I) => (by
        have := trim_any (some ⟨qb, 0, none⟩) m q g.w ((sl_blk (by omega) (by omega) hqo).at (blkF_sub g.blk0))
        rw [hql, hst.1] at this
        exact this : Calls Try.prog 80 #[.slice (some ⟨qb, 0, none⟩) m m] g.w fun e w' => e = .returned (.slice (some ⟨qb, 0, none⟩) (limbs (a / b)).length m) ∧ Below g.w.heap.size g.w w'))
      have CTr := Lib.hid (fun (I : List Frag) (g : G w [] [(qb, 82, u32s q), (rb, 82, u32s r)] I) => (by
        have := trim_any (some ⟨rb, 0, none⟩) (la + 1) ((r.drop 0).take (n + 1)) g.w ((sl_seg (by omega) (by omega) (by omega) DV.out.rok).at (blkF_sub g.blk1))
        rw [seg_len (by omega), hrv] at this
        exact this : Calls Try.prog 80 #[.slice (some ⟨rb, 0, none⟩) (n + 1) (la + 1)] g.w fun e w' => e = .returned (.slice (some ⟨rb, 0, none⟩) (limbs (a % b * 2 ^ u)).length (la + 1)) ∧ Below g.w.heap.size g.w w'))
      have CSh := Lib.hid (fun (I : List Frag) (g : G w [] [(qb, 82, u32s q), (rb, 82, u32s r)] I) => (by
        have hsl := sl_trim ((sl_seg (b := rb) (T := 82) (out := r) (fr := (0, 0)) (o := 0) (k := n + 1) (c := la + 1) (by omega) (by omega) (by omega) DV.out.rok).at (blkF_sub g.blk1))
        rw [hrv] at hsl
        have hlw : (limbs (a % b * 2 ^ u)).length ≤ n + 1 := (limbs_len _ _).2 (by rw [← hst.2]; exact Nat.lt_trans hlt0 hDlt.out)
        have := shift_back (some ⟨rb, 0, none⟩) (la + 1) (a % b * 2 ^ u) u g.w hsl (by omega) hu
        rw [Nat.mul_div_cancel _ (Nat.two_pow_pos u)] at this
        exact this : Calls Try.prog 77 #[.slice (some ⟨rb, 0, none⟩) (limbs (a % b * 2 ^ u)).length (la + 1), .int .i64 (-(u : Int))] g.w (RNat (a % b) g.w)))
      have hqv := hst.1
      have HQV := Lib.hid hqv
      have HQL := Lib.hid hql
      have hm9 : m ≤ 140737488355328 := by omega
      clear hst hrl hql hlt0 hrv hM hqv
      generalize (limbs (a % b * 2 ^ u)).length = lw at *
      obtain ⟨N, hN⟩ : ∃ N, -(u : Int) = N := ⟨_, rfl⟩
      have hwn : IntKind.i64.wrap N = N := by rw [IntKind.wrap_i64]; omega
      rw [hN] at CSh
      go_wp2_with fail
      go_region_with (first | (go_at_call 80; (with_reducible refine (CTq.out _ _).mono ?_); rintro e w1 ⟨rfl, hb⟩; obtain ⟨g1, rfl⟩ := G.call_ex _ hb; clear hb; (try clear g); revert g1; intro g) | (go_at_call 80; (with_reducible refine (CTr.out _ _).mono ?_); rintro e w1 ⟨rfl, hb⟩; obtain ⟨g1, rfl⟩ := G.call_ex _ hb; clear hb; (try clear g); revert g1; intro g) | (go_at_call 77; (with_reducible refine (CSh.out _ _).mono ?_); rintro e w1 ⟨Ax, cx, Fx, rfl, hsx, hnx⟩; have hnn := fun k o hk => Nat.le_trans g.chg.size (hnx.new k o hk); obtain ⟨g1, rfl⟩ := G.new_ex _ hnx; clear hnx; (try clear g); revert g1; intro g))
      all_goals ((try simp only [G.drew_eq, G.drewN_eq]); (refine G.any_mark _ ?_; (try generalize Array.size (World.heap (G.w _)) = bk); (try dsimp only [List.set_cons_zero, List.set_cons_succ]); (try clear g); intro g))
      all_goals go_wp2_with (with_reducible refine G.any_mark _ ?_; (try generalize Array.size (World.heap (G.w _)) = bk); (try dsimp only [List.set_cons_zero, List.set_cons_succ]); (try clear g); intro g)
      all_goals (try rw [Exit.noGoto_ret])
      all_goals go_ret2
      all_goals refine ⟨_, _, _, _, _, _, rfl, ?_, hsx, g.give (List.mem_cons_self ..), g.pass (by simp) hnn⟩
      all_goals have hqs := sl_trim (sl_blk (b := qb) (T := 82) (l := q) (fr := (0, 0)) (c := m) (Nat.le_of_eq HQL.out) hm9 hqo)
      all_goals rw [HQV.out] at hqs
      all_goals exact hqs
    | succ j =>
      rw [show ((j + 1 : Nat) : Int) - 1 = (j : Int) by omega]
      have hrl := DV.out.rlen
      have hql := DV.out.qlen
      have hM := HM.out
      obtain ⟨J1, hJ1⟩ : ∃ J1, j + (n + 1) = J1 := ⟨_, rfl⟩
      obtain ⟨J0, hJ0⟩ : ∃ J0, j + n = J0 := ⟨_, rfl⟩
      have hs1 : (j : Int) + ((n : Int) + 1) = (J1 : Int) := by omega
      have hs2 : (J1 : Int) - 1 = (J0 : Int) := by omega
      have hr1 := u32s_getD (l := r) (j := J1) (by omega)
      have hr0 := u32s_getD (l := r) (j := J0) (by omega)
      obtain ⟨bd, od, rfl, hcd⟩ := lim_cells hsd.lim (by rw [HDL.out]; omega)
      have ed := Lib.hid (hcd n (by rw [HDL.out]; omega))
      have hgs := (by have := DV.out; rw [← val_limbs D] at this; exact this.guess (ok_limbs D) HDL.out (Nat.pos_of_ne_zero hDn.out) : _)
      rw [val_limbs, hJ1, hJ0] at hgs
      have hx1 := DV.out.rok.getD J1
      have hx0 := DV.out.rok.getD J0
      have hdt := (ok_limbs D).getD n
      have hdp := Nat.pos_of_ne_zero hDn.out
      generalize (limbs D).getD n 0 = dt at *
      generalize r.getD J1 0 = x1 at *
      generalize r.getD J0 0 = x0 at *
      have hor : bits .or .u64 (IntKind.u64.wrap (IntKind.u64.wrap (x1 : Int) * 4294967296)) (IntKind.u64.wrap (x0 : Int)) = ((x1 * 4294967296 + x0 : Nat) : Int) := by
        rw [show IntKind.u64.wrap (x1 : Int) = (x1 : Int) by rw [IntKind.wrap_u64]; omega, show IntKind.u64.wrap (x0 : Int) = (x0 : Int) by rw [IntKind.wrap_u64]; omega]
        rw [show IntKind.u64.wrap ((x1 : Int) * 4294967296) = ((4294967296 * x1 : Nat) : Int) by rw [IntKind.wrap_u64]; omega, K3.or64_comm, K3.or64_add _ _ 32 (by omega) (by omega) (by omega) (by omega)]
        omega
      have hh : x1 * 4294967296 + x0 < 18446744073709551616 := by omega
      obtain ⟨H, hH⟩ : ∃ H, x1 * 4294967296 + x0 = H := ⟨_, rfl⟩
      rw [hH] at hor hh hgs
      clear hH
      have HG := Lib.hid hgs
      have HJ1 := Lib.hid hJ1
      have HJ0 := Lib.hid hJ0
      have HRL := Lib.hid hrl
      have HQL := Lib.hid hql
      have hjm : j < m := by omega
      have hJ1a : J1 < la + 1 := by omega
      have hJ0a : J0 < la + 1 := by omega
      have hJ1b : (0 : Int) ≤ (J1 : Int) := by omega
      have hJ1c : (J1 : Int) < (la : Int) + 1 := by omega
      have hJ0c : (J0 : Int) < (la : Int) + 1 := by omega
      have hw1 : IntKind.i64.wrap (J1 : Int) = (J1 : Int) := by rw [IntKind.wrap_i64]; omega
      have hw2 : IntKind.i64.wrap (J0 : Int) = (J0 : Int) := by rw [IntKind.wrap_i64]; omega
      have e1 := ed.out _ _ _ _ g (by simp)
      clear hgs hJ1 hJ0 hrl hql hM hcd
      go_wp2_with fail
      go_region_held3 (fun w' => w'.cell? ⟨rb, J1, none⟩ = some (.int .u32 (x1 : Int)) ∧ w'.cell? ⟨rb, J0, none⟩ = some (.int .u32 (x0 : Int))) (((try simp only [G.drew_eq, G.drewN_eq, G.cell1]); exact ⟨hr1, hr0⟩)) (fail)
      ((try simp only [G.drew_eq, G.drewN_eq]); (refine G.any_mark _ ?_; (try generalize Array.size (World.heap (G.w _)) = bk); (try dsimp only [List.set_cons_zero, List.set_cons_succ]); (try clear g); intro g))
      clear e1
      have e1 := ed.out _ _ _ _ g (by simp)
      obtain ⟨Q, hQ⟩ : ∃ Q, H / dt = Q := ⟨_, rfl⟩
      have hq1 : Int.tdiv (H : Int) (dt : Int) = (Q : Int) := by rw [Int.tdiv_eq_ediv_of_nonneg (by omega), ← hQ]; exact (Int.natCast_ediv H dt).symm
      have hq2 : (H : Int) / (dt : Int) = (Q : Int) := by rw [← hQ]; exact (Int.natCast_ediv H dt).symm
      have hdz : ((dt : Int) == 0) = false := by rw [beq_eq_false_iff_ne]; omega
      have hdz2 : ¬ ((dt : Int) = 0) := by omega
      have hQ64 : Q < 18446744073709551616 := by rw [← hQ]; exact Nat.lt_of_le_of_lt (Nat.div_le_self _ _) hh
      have hwd : IntKind.u64.wrap (dt : Int) = (dt : Int) := by rw [IntKind.wrap_u64]; omega
      rw [hQ] at HG
      clear hQ
      obtain ⟨G0, hG0⟩ : ∃ G0, min Q 4294967295 = G0 := ⟨_, rfl⟩
      have hmin : min (Q : Int) 4294967295 = (G0 : Int) := by omega
      have hG1 : G0 < 4294967296 := by omega
      obtain ⟨qd, hqd⟩ : ∃ qd, val (r.drop j) / D = qd := ⟨_, rfl⟩
      have hqG : qd ≤ G0 := by have := HG.out; rw [hqd] at this; omega
      have HQD := Lib.hid hqd
      clear hG0 hqd
      go_wp2_with (with_reducible refine G.any_mark _ ?_; (try generalize Array.size (World.heap (G.w _)) = bk); (try dsimp only [List.set_cons_zero, List.set_cons_succ]); (try clear g); intro g)
      clear hr1 hr0 hmin hq1 hq2 e1
      go_loopg [14] G0 (fun gk s14 wr => s14 = .int .u64 (gk : Int) ∧ qd ≤ gk ∧ gk < 4294967296 ∧ ∃ g : G w [] [(qb, 82, u32s q), (rb, 82, u32s r)] [Fs, Fd, heapOf w], wr = g.w)
      case atStart => exact ⟨rfl, hqG, hG1, g, rfl⟩
      case round =>
        clear g hqG hG1 hor hh hwd hdz hdz2
        obtain ⟨rfl, hqk, hk32, g, rfl⟩ := hrel
        obtain ⟨J2, hJ2⟩ : ∃ J2, J1 + 1 = J2 := ⟨_, rfl⟩
        have hk2 : J2 - j = n + 1 + 1 := by have := HJ1.out; omega
        have hs3 : (J1 : Int) + 1 = (J2 : Int) := by omega
        have hw3 : IntKind.i64.wrap (J2 : Int) = (J2 : Int) := by rw [IntKind.wrap_i64]; omega
        have hw4 : IntKind.u32.wrap (gk : Int) = (gk : Int) := by rw [IntKind.wrap_u32]; omega
        have hJ2a : J2 ≤ la + 1 := by omega
        have hJ2b : (J2 : Int) ≤ (la : Int) + 1 := by omega
        have hJ2c : (0 : Int) ≤ (J2 : Int) := by omega
        have hjJ : j ≤ J2 := by have := HJ1.out; omega
        have hjJ2 : (j : Int) ≤ (J2 : Int) := by omega
        have CT := Lib.hid (fun w hb h2 hap => take_any rb j (J2 - j) (la + 1 - j) r (some ⟨bd, od, none⟩) cd (limbs D) gk w hb (by have := HRL.out; have := HM.out; omega) (by omega) (by omega) DV.out.rok h2 hap (by rw [HDL.out]; omega) hk32 (by have := HRL.out; have := HM.out; omega))
        rw [HDL.out] at CT
        have HK2 := Lib.hid hk2
        clear hk2 hJ2
        go_wp2_with (with_reducible refine G.any_mark _ ?_; (try generalize Array.size (World.heap (G.w _)) = bk); (try dsimp only [List.set_cons_zero, List.set_cons_succ]); (try clear g); intro g)
        refine (CT.out _ g.blk1 (G.sl g (by simp) hsd) (apart_of g (by simp) hsd (by rw [HDL.out]; omega) (by simp))).mono ?_
        rintro e w1 ⟨x, out', rfl, hch, hhb, hR⟩
        obtain ⟨g1, rfl⟩ := G.mut1 g hch hhb
        clear hch hhb CT g
        revert g1
        intro gz
        rcases hR with ⟨rfl, hlt, rfl⟩ | ⟨rfl, hle, ho1, ho2, ho3, ho4⟩
        · have hqlt : qd < gk := by
            rw [HK2.out, val_limbs] at hlt
            have hD1 : D ≤ 4294967296 ^ (n + 1) := Nat.le_of_lt hDlt.out
            rw [(DV.out.seg hD1).1] at hlt
            rw [← HQD.out]
            exact Nat.div_lt_of_lt_mul hlt
          clear hlt
          obtain ⟨gk', hgk'⟩ : ∃ gk', gk = gk' + 1 := ⟨gk - 1, by omega⟩
          have hw5 : (gk : Int) - 1 = (gk' : Int) := by omega
          have hw6 : IntKind.u64.wrap (gk' : Int) = (gk' : Int) := by rw [IntKind.wrap_u64]; omega
          have hle' : qd ≤ gk' := by omega
          have HGK := Lib.hid hgk'
          clear hgk'
          go_wp2_with (with_reducible refine G.any_mark _ ?_; (try generalize Array.size (World.heap (G.w _)) = bk); (try dsimp only [List.set_cons_zero, List.set_cons_succ]); (try clear g); intro g)
          go_roundg gk'
          case measure => have := HGK.out; omega
          case rel => exact ⟨rfl, hle', by have := HGK.out; omega, gz, rfl⟩
        · have hqe : gk = qd := by
            rw [HK2.out, val_limbs] at hle
            have hD1 : D ≤ 4294967296 ^ (n + 1) := Nat.le_of_lt hDlt.out
            rw [(DV.out.seg hD1).1] at hle
            have := (Nat.le_div_iff_mul_le (Nat.pos_of_ne_zero HD0.out)).2 (by rwa [Nat.mul_comm])
            have h3 : gk ≤ qd := by rw [← HQD.out]; exact this
            omega
          have hDV2 : Dv V D (n + 1) m j out' (q.set j gk) := by
            have hD1 : D ≤ 4294967296 ^ (n + 1) := Nat.le_of_lt hDlt.out
            rw [HK2.out] at ho3 ho4
            rw [val_limbs] at ho4
            exact DV.out.next hD1 hjm hk32 (by rw [HQD.out]; exact hqe) (Nat.pos_of_ne_zero HD0.out) ho1 ho2 ho3 ho4
          have HD2 := Lib.hid hDV2
          have hset := Lib.hid (u32s_set q j gk)
          have hqj : j < q.length := by rw [HQL.out]; exact hjm
          have hqz := u32s_getD hqj
          clear hle ho1 ho2 ho3 ho4 hDV2 hqe
          go_wp2_with (with_reducible refine G.any_mark _ ?_; (try generalize Array.size (World.heap (G.w _)) = bk); (try dsimp only [List.set_cons_zero, List.set_cons_succ]); (try clear g); intro g)
          obtain ⟨g2, hg2⟩ := g.as (by rw [hset.out])
          go_roundg j
          case measure => omega
          case rel => exact ⟨out', q.set j gk, rfl, by omega, HD2, g2, hg2⟩
end Go.Proofs.Ytodigegjngnknaa
