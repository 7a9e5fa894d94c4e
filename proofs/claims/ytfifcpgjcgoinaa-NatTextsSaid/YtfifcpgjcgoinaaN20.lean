/- Contracts of functions of the program, out of walks. Their conditions stand ahead of each. -/
import Derived.Test.YtfifcpgjcgoinaaN19
import Derived.Test.YtfifcpgjcgoinaaN14
import Derived.WalkMore
import Derived.Deep.LoopGhost
set_option linter.unusedVariables false
set_option linter.unusedSimpArgs false
namespace Go.Proofs.Ytfifcpgjcgoinaa
open Go.RowKit GW NL
theorem divide_less (A1 A2 : Option Addr) (c1 c2 a b : Nat) (w : World) (h1 : SlW w A1 c1 (limbs a)) (h2 : SlW w A2 c2 (limbs b)) (hl1 : (limbs a).length ≤ 100000000) (hab : a < b) :
    Calls Try.prog 50 #[.slice A1 (limbs a).length c1, .slice A2 (limbs b).length c2] w (RNN (a / b) (a % b) w) := by
  refine calls_b fun g => ?_
  rw [Nat.div_eq_of_lt hab, Nat.mod_eq_of_lt hab]
  have hord : ord a b = -1 := by unfold ord; rw [if_pos hab]
  have C1 := Lib.hid (fun w h1 h2 => compare_any A1 A2 c1 c2 a b w h1 h2 (by omega))
  rw [hord] at C1
  have C2 := Lib.hid (fun w h => clone_any A1 c1 (limbs a) w h (by omega))
  clear hord hab
  go_enter Try.func50, Try.ntmps50
  go_wp2_with (with_reducible refine G.any_mark _ ?_; (try generalize Array.size (World.heap (G.w _)) = bk); (try dsimp only [List.set_cons_zero, List.set_cons_succ]); (try clear g); intro g)
  go_step3
  go_wp2_with (with_reducible refine G.any_mark _ ?_; (try generalize Array.size (World.heap (G.w _)) = bk); (try dsimp only [List.set_cons_zero, List.set_cons_succ]); (try clear g); intro g)
  refine (C1.out _ (G.sl g (by simp) h1) (G.sl g (by simp) h2)).mono ?_
  rintro e w1 ⟨rfl, hb⟩
  obtain ⟨g1, rfl⟩ := G.call_ex _ hb
  clear hb
  (try clear g)
  revert g1
  intro g
  go_wp2_with (with_reducible refine G.any_mark _ ?_; (try generalize Array.size (World.heap (G.w _)) = bk); (try dsimp only [List.set_cons_zero, List.set_cons_succ]); (try clear g); intro g)
  refine (C2.out _ (G.sl g (by simp) h1)).mono ?_
  rintro e w1 ⟨A, c, F, rfl, hs, hn⟩
  have hnn := fun k o hk => Nat.le_trans g.chg.size (hn.new k o hk)
  obtain ⟨g1, rfl⟩ := G.new_ex _ hn
  clear hn
  (try clear g)
  revert g1
  intro g
  go_wp2_with (with_reducible refine G.any_mark _ ?_; (try generalize Array.size (World.heap (G.w _)) = bk); (try dsimp only [List.set_cons_zero, List.set_cons_succ]); (try clear g); intro g)
  (try rw [Exit.noGoto_ret])
  go_ret2
  exact ⟨none, 0, (fun _ => none), _, _, _, by rw [limbs_zero]; rfl, by rw [limbs_zero]; exact Frag.Sl.nil _ _, hs, g.none, g.pass (by simp) hnn⟩
theorem divide_one (A1 A2 : Option Addr) (c1 c2 a b : Nat) (w : World) (h1 : SlW w A1 c1 (limbs a)) (h2 : SlW w A2 c2 (limbs b)) (hl1 : (limbs a).length ≤ 100000000) (hab : ¬ a < b) (hb : (limbs b).length = 1) :
    Calls Try.prog 50 #[.slice A1 (limbs a).length c1, .slice A2 (limbs b).length c2] w (RNN (a / b) (a % b) w) := by
  refine calls_b fun g => ?_
  have hb0 : b ≠ 0 := fun e => by rw [limbs_nil.2 e] at hb; cases hb
  have hb1 : b < 4294967296 := by have := (limbs_len b 1).1 (by omega); simpa using this
  obtain ⟨C, hC⟩ : ∃ C, C = ord a b := ⟨_, rfl⟩
  have hC0 : ¬ C < 0 := by rw [hC]; unfold ord; rw [if_neg hab]; split <;> decide
  have hC1 : (0 : Int) ≤ C := by omega
  have C1 := Lib.hid (fun w h1 h2 => compare_any A1 A2 c1 c2 a b w h1 h2 (by omega))
  rw [← hC, hb] at C1
  have C2 := Lib.hid (fun w h => small_any A1 c1 (limbs a) b w h (by omega) (by omega) hb1)
  rw [val_limbs] at C2
  have C3 := Lib.hid (fun A c w h => trim_any A c [a % b] w h)
  rw [val_single] at C3
  have hr : a % b < 4294967296 := by have := Nat.mod_lt a (show 0 < b by omega); omega
  have hokr : Ok [a % b] := Ok.cons hr Ok.nil
  obtain ⟨bb, bo, rfl, hcell⟩ := lim_cells h2.lim (by omega)
  have e0 := Lib.hid (hcell 0 (by omega))
  have hg0 : (limbs b).getD 0 0 = b := by rw [limbs_one hb0 hb1]; rfl
  rw [hg0] at e0
  clear hcell hg0
  rw [hb]
  generalize a / b = q at *
  generalize a % b = r at *
  clear hC hab hb0
  go_enter Try.func50, Try.ntmps50
  go_wp2_with (with_reducible refine G.any_mark _ ?_; (try generalize Array.size (World.heap (G.w _)) = bk); (try dsimp only [List.set_cons_zero, List.set_cons_succ]); (try clear g); intro g)
  go_step3
  go_wp2_with (with_reducible refine G.any_mark _ ?_; (try generalize Array.size (World.heap (G.w _)) = bk); (try dsimp only [List.set_cons_zero, List.set_cons_succ]); (try clear g); intro g)
  refine (C1.out _ (G.sl g (by simp) h1) (G.sl g (by simp) h2)).mono ?_
  rintro e w1 ⟨rfl, hb⟩
  obtain ⟨g1, rfl⟩ := G.call_ex _ hb
  clear hb
  (try clear g)
  revert g1
  intro g
  have e1 := e0.out _ _ _ _ g (by simp)
  rw [Nat.add_zero] at e1
  go_wp2_with (with_reducible refine G.any_mark _ ?_; (try generalize Array.size (World.heap (G.w _)) = bk); (try dsimp only [List.set_cons_zero, List.set_cons_succ]); (try clear g); intro g)
  clear e1
  refine (C2.out _ (G.sl g (by simp) h1)).mono ?_
  rintro e w1 ⟨A, c, F, rfl, hs, hn⟩
  have hnn := fun k o hk => Nat.le_trans g.chg.size (hn.new k o hk)
  obtain ⟨g1, rfl⟩ := G.new_ex _ hn
  clear hn g
  revert g1
  intro g
  go_wp2_with (with_reducible refine G.any_mark _ ?_; (try generalize Array.size (World.heap (G.w _)) = bk); (try dsimp only [List.set_cons_zero, List.set_cons_succ]); (try clear g); intro g)
  obtain ⟨g2, hg2⟩ := g.as (M' := [(bk, 30, u32s [r])]) rfl
  rw [hg2]
  clear hg2 g
  revert g2
  intro g
  have hsl : SlW g.w (some ⟨bk, 0, none⟩) 1 [r] := (sl_blk (l := [r]) (c := 1) (Nat.le_refl _) (by decide) hokr).at (blkF_sub g.blk0)
  refine (C3.out _ _ _ hsl).mono ?_
  rintro e w1 ⟨rfl, hb⟩
  obtain ⟨g1, rfl⟩ := G.call_ex _ hb
  clear hb
  (try clear g)
  revert g1
  intro g
  go_wp2_with (with_reducible refine G.any_mark _ ?_; (try generalize Array.size (World.heap (G.w _)) = bk); (try dsimp only [List.set_cons_zero, List.set_cons_succ]); (try clear g); intro g)
  (try rw [Exit.noGoto_ret])
  go_ret2
  refine ⟨_, _, _, _, _, _, rfl, hs, ?_, g.pass (by simp) hnn, g.give (List.mem_cons_self ..)⟩
  have := sl_trim (sl_blk (b := bk) (T := 30) (l := [r]) (fr := (0, 0)) (c := 1) (Nat.le_refl _) (by decide) hokr)
  rwa [val_single] at this
end Go.Proofs.Ytfifcpgjcgoinaa
