/- Contracts of functions of the program, out of walks. Their conditions stand ahead of each. -/
import Derived.Test.YtfifcpgjcgoinaaN4
set_option linter.unusedVariables false
set_option linter.unusedSimpArgs false
set_option exponentiation.threshold 10000
namespace Go.Proofs.Ytfifcpgjcgoinaa
open Go.RowKit GW NL
/-- what a call returns: an error ahead, or the number if it fits -/
def outN (e : Int) (v : Nat) : Nat × Int := if e ≠ 0 then (0, e) else if v < 2 ^ 8192 then (v, 0) else (0, 5)
set_option maxRecDepth 20000 in
theorem Add_any (A1 A2 : Option Addr) (c1 c2 : Nat) (l1 l2 : List Nat) (w : World) (h1 : SlW w A1 c1 l1) (h2 : SlW w A2 c2 l2) (hl1 : l1.length ≤ 1000000000) (hl2 : l2.length ≤ 1000000000) :
    Calls Try.prog 17 #[.slice A1 l1.length c1, .slice A2 l2.length c2] w (RNE (outN (chk2 l1 l2) (val l1 + val l2)) w) := by
  refine calls_b fun g => ?_
  have CK := Lib.hid (fun b w h1 h2 e1 e2 => check2_any b A1 A2 c1 c2 l1 l2 w h1 h2 e1 e2)
  have CA := Lib.hid (fun w h1 h2 => add_any A1 A2 c1 c2 l1 l2 w h1 h2 hl1 hl2)
  have CY := Lib.hid (fun A c w h hv => fits_yes A c (val l1 + val l2) w h hv)
  have CN := Lib.hid (fun A c w h hv => fits_no A c (val l1 + val l2) w h hv)
  generalize val l1 + val l2 = v at *
  have hr : ∀ x : Bool, (chk2 l1 l2 == 0) = x → Calls Try.prog 17 #[.slice A1 l1.length c1, .slice A2 l2.length c2] g.w (RNE (outN (chk2 l1 l2) v) w) := by
    intro x hx
    generalize chk2 l1 l2 = r at *
    generalize l1.length = n1 at *
    generalize l2.length = n2 at *
    cases x
    · have hO : outN r v = (0, r) := by unfold outN; rw [if_pos (by simpa using hx)]
      rw [hO]
      clear hO
      go_enter Try.func17, Try.ntmps17
      go_wp2_with (with_reducible refine G.any_mark _ ?_; (try generalize Array.size (World.heap (G.w _)) = bk); (try dsimp only [List.set_cons_zero, List.set_cons_succ]); (try clear g); intro g)
      refine (CK.out _ _ (G.sl g (by simp) h1) (G.sl g (by simp) h2) ?_ ?_).mono ?_
      · go_simp
      · go_simp
      rintro e w1 ⟨rfl, hb⟩
      obtain ⟨g1, rfl⟩ := G.call_ex _ hb
      clear hb
      revert g1
      intro g
      go_wp2_with (with_reducible refine G.any_mark _ ?_; (try generalize Array.size (World.heap (G.w _)) = bk); (try dsimp only [List.set_cons_zero, List.set_cons_succ]); (try clear g); intro g)
      go_ret2
      exact rne_err g r
    · have hr0 : r = 0 := by simpa using hx
      subst hr0
      clear hx
      have hv' : v < 2 ^ 8192 ∨ ¬ v < 2 ^ 8192 := Decidable.em _
      rcases hv' with hv | hv
      · have hO : outN 0 v = (v, 0) := by unfold outN; rw [if_neg (by simp), if_pos hv]
        rw [hO]
        clear hO
        go_enter Try.func17, Try.ntmps17
        go_wp2_with (with_reducible refine G.any_mark _ ?_; (try generalize Array.size (World.heap (G.w _)) = bk); (try dsimp only [List.set_cons_zero, List.set_cons_succ]); (try clear g); intro g)
        refine (CK.out _ _ (G.sl g (by simp) h1) (G.sl g (by simp) h2) ?_ ?_).mono ?_
        · go_simp
        · go_simp
        rintro e w1 ⟨rfl, hb⟩
        obtain ⟨g1, rfl⟩ := G.call_ex _ hb
        clear hb
        revert g1
        intro g
        go_wp2_with (with_reducible refine G.any_mark _ ?_; (try generalize Array.size (World.heap (G.w _)) = bk); (try dsimp only [List.set_cons_zero, List.set_cons_succ]); (try clear g); intro g)
        refine (CA.out _ (G.sl g (by simp) h1) (G.sl g (by simp) h2)).mono ?_
        rintro e w1 ⟨A, c, F, rfl, hs, hn⟩
        have hnn := fun k o hk => Nat.le_trans g.chg.size (hn.new k o hk)
        obtain ⟨g1, rfl⟩ := G.new_ex _ hn
        clear hn
        revert g1
        intro g
        go_wp2_with (with_reducible refine G.any_mark _ ?_; (try generalize Array.size (World.heap (G.w _)) = bk); (try dsimp only [List.set_cons_zero, List.set_cons_succ]); (try clear g); intro g)
        refine (CY.out _ _ _ (G.sl g (by simp) hs) hv).mono ?_
        rintro e w1 ⟨rfl, hb⟩
        obtain ⟨g1, rfl⟩ := G.call_ex _ hb
        clear hb
        revert g1
        intro g
        go_wp2_with (with_reducible refine G.any_mark _ ?_; (try generalize Array.size (World.heap (G.w _)) = bk); (try dsimp only [List.set_cons_zero, List.set_cons_succ]); (try clear g); intro g)
        go_ret2
        exact rne_pass g hs (by simp) hnn 0
      · have hO : outN 0 v = (0, 5) := by unfold outN; rw [if_neg (by simp), if_neg hv]
        rw [hO]
        clear hO
        go_enter Try.func17, Try.ntmps17
        go_wp2_with (with_reducible refine G.any_mark _ ?_; (try generalize Array.size (World.heap (G.w _)) = bk); (try dsimp only [List.set_cons_zero, List.set_cons_succ]); (try clear g); intro g)
        refine (CK.out _ _ (G.sl g (by simp) h1) (G.sl g (by simp) h2) ?_ ?_).mono ?_
        · go_simp
        · go_simp
        rintro e w1 ⟨rfl, hb⟩
        obtain ⟨g1, rfl⟩ := G.call_ex _ hb
        clear hb
        revert g1
        intro g
        go_wp2_with (with_reducible refine G.any_mark _ ?_; (try generalize Array.size (World.heap (G.w _)) = bk); (try dsimp only [List.set_cons_zero, List.set_cons_succ]); (try clear g); intro g)
        refine (CA.out _ (G.sl g (by simp) h1) (G.sl g (by simp) h2)).mono ?_
        rintro e w1 ⟨A, c, F, rfl, hs, hn⟩
        obtain ⟨g1, rfl⟩ := G.new_ex _ hn
        clear hn
        revert g1
        intro g
        go_wp2_with (with_reducible refine G.any_mark _ ?_; (try generalize Array.size (World.heap (G.w _)) = bk); (try dsimp only [List.set_cons_zero, List.set_cons_succ]); (try clear g); intro g)
        refine (CN.out _ _ _ (G.sl g (by simp) hs) hv).mono ?_
        rintro e w1 ⟨rfl, hb⟩
        obtain ⟨g1, rfl⟩ := G.call_ex _ hb
        clear hb
        revert g1
        intro g
        go_wp2_with (with_reducible refine G.any_mark _ ?_; (try generalize Array.size (World.heap (G.w _)) = bk); (try dsimp only [List.set_cons_zero, List.set_cons_succ]); (try clear g); intro g)
        go_ret2
        exact rne_err g 5
  exact hr _ rfl
set_option maxRecDepth 20000 in
theorem Mul_any (A1 A2 : Option Addr) (c1 c2 : Nat) (l1 l2 : List Nat) (w : World) (h1 : SlW w A1 c1 l1) (h2 : SlW w A2 c2 l2) (hl1 : l1.length ≤ 1000000000) (hl2 : l2.length ≤ 1000000000) :
    Calls Try.prog 14 #[.slice A1 l1.length c1, .slice A2 l2.length c2] w (RNE (outN (chk2 l1 l2) (val l1 * val l2)) w) := by
  refine calls_b fun g => ?_
  have CK := Lib.hid (fun b w h1 h2 e1 e2 => check2_any b A1 A2 c1 c2 l1 l2 w h1 h2 e1 e2)
  have CA := Lib.hid (fun w h1 h2 => mul_any A1 A2 c1 c2 l1 l2 w h1 h2 hl1 hl2)
  have CY := Lib.hid (fun A c w h hv => fits_yes A c (val l1 * val l2) w h hv)
  have CN := Lib.hid (fun A c w h hv => fits_no A c (val l1 * val l2) w h hv)
  generalize val l1 * val l2 = v at *
  have hr : ∀ x : Bool, (chk2 l1 l2 == 0) = x → Calls Try.prog 14 #[.slice A1 l1.length c1, .slice A2 l2.length c2] g.w (RNE (outN (chk2 l1 l2) v) w) := by
    intro x hx
    generalize chk2 l1 l2 = r at *
    generalize l1.length = n1 at *
    generalize l2.length = n2 at *
    cases x
    · have hO : outN r v = (0, r) := by unfold outN; rw [if_pos (by simpa using hx)]
      rw [hO]
      clear hO
      go_enter Try.func14, Try.ntmps14
      go_wp2_with (with_reducible refine G.any_mark _ ?_; (try generalize Array.size (World.heap (G.w _)) = bk); (try dsimp only [List.set_cons_zero, List.set_cons_succ]); (try clear g); intro g)
      refine (CK.out _ _ (G.sl g (by simp) h1) (G.sl g (by simp) h2) ?_ ?_).mono ?_
      · go_simp
      · go_simp
      rintro e w1 ⟨rfl, hb⟩
      obtain ⟨g1, rfl⟩ := G.call_ex _ hb
      clear hb
      revert g1
      intro g
      go_wp2_with (with_reducible refine G.any_mark _ ?_; (try generalize Array.size (World.heap (G.w _)) = bk); (try dsimp only [List.set_cons_zero, List.set_cons_succ]); (try clear g); intro g)
      go_ret2
      exact rne_err g r
    · have hr0 : r = 0 := by simpa using hx
      subst hr0
      clear hx
      have hv' : v < 2 ^ 8192 ∨ ¬ v < 2 ^ 8192 := Decidable.em _
      rcases hv' with hv | hv
      · have hO : outN 0 v = (v, 0) := by unfold outN; rw [if_neg (by simp), if_pos hv]
        rw [hO]
        clear hO
        go_enter Try.func14, Try.ntmps14
        go_wp2_with (with_reducible refine G.any_mark _ ?_; (try generalize Array.size (World.heap (G.w _)) = bk); (try dsimp only [List.set_cons_zero, List.set_cons_succ]); (try clear g); intro g)
        refine (CK.out _ _ (G.sl g (by simp) h1) (G.sl g (by simp) h2) ?_ ?_).mono ?_
        · go_simp
        · go_simp
        rintro e w1 ⟨rfl, hb⟩
        obtain ⟨g1, rfl⟩ := G.call_ex _ hb
        clear hb
        revert g1
        intro g
        go_wp2_with (with_reducible refine G.any_mark _ ?_; (try generalize Array.size (World.heap (G.w _)) = bk); (try dsimp only [List.set_cons_zero, List.set_cons_succ]); (try clear g); intro g)
        refine (CA.out _ (G.sl g (by simp) h1) (G.sl g (by simp) h2)).mono ?_
        rintro e w1 ⟨A, c, F, rfl, hs, hn⟩
        have hnn := fun k o hk => Nat.le_trans g.chg.size (hn.new k o hk)
        obtain ⟨g1, rfl⟩ := G.new_ex _ hn
        clear hn
        revert g1
        intro g
        go_wp2_with (with_reducible refine G.any_mark _ ?_; (try generalize Array.size (World.heap (G.w _)) = bk); (try dsimp only [List.set_cons_zero, List.set_cons_succ]); (try clear g); intro g)
        refine (CY.out _ _ _ (G.sl g (by simp) hs) hv).mono ?_
        rintro e w1 ⟨rfl, hb⟩
        obtain ⟨g1, rfl⟩ := G.call_ex _ hb
        clear hb
        revert g1
        intro g
        go_wp2_with (with_reducible refine G.any_mark _ ?_; (try generalize Array.size (World.heap (G.w _)) = bk); (try dsimp only [List.set_cons_zero, List.set_cons_succ]); (try clear g); intro g)
        go_ret2
        exact rne_pass g hs (by simp) hnn 0
      · have hO : outN 0 v = (0, 5) := by unfold outN; rw [if_neg (by simp), if_neg hv]
        rw [hO]
        clear hO
        go_enter Try.func14, Try.ntmps14
        go_wp2_with (with_reducible refine G.any_mark _ ?_; (try generalize Array.size (World.heap (G.w _)) = bk); (try dsimp only [List.set_cons_zero, List.set_cons_succ]); (try clear g); intro g)
        refine (CK.out _ _ (G.sl g (by simp) h1) (G.sl g (by simp) h2) ?_ ?_).mono ?_
        · go_simp
        · go_simp
        rintro e w1 ⟨rfl, hb⟩
        obtain ⟨g1, rfl⟩ := G.call_ex _ hb
        clear hb
        revert g1
        intro g
        go_wp2_with (with_reducible refine G.any_mark _ ?_; (try generalize Array.size (World.heap (G.w _)) = bk); (try dsimp only [List.set_cons_zero, List.set_cons_succ]); (try clear g); intro g)
        refine (CA.out _ (G.sl g (by simp) h1) (G.sl g (by simp) h2)).mono ?_
        rintro e w1 ⟨A, c, F, rfl, hs, hn⟩
        obtain ⟨g1, rfl⟩ := G.new_ex _ hn
        clear hn
        revert g1
        intro g
        go_wp2_with (with_reducible refine G.any_mark _ ?_; (try generalize Array.size (World.heap (G.w _)) = bk); (try dsimp only [List.set_cons_zero, List.set_cons_succ]); (try clear g); intro g)
        refine (CN.out _ _ _ (G.sl g (by simp) hs) hv).mono ?_
        rintro e w1 ⟨rfl, hb⟩
        obtain ⟨g1, rfl⟩ := G.call_ex _ hb
        clear hb
        revert g1
        intro g
        go_wp2_with (with_reducible refine G.any_mark _ ?_; (try generalize Array.size (World.heap (G.w _)) = bk); (try dsimp only [List.set_cons_zero, List.set_cons_succ]); (try clear g); intro g)
        go_ret2
        exact rne_err g 5
  exact hr _ rfl
end Go.Proofs.Ytfifcpgjcgoinaa
