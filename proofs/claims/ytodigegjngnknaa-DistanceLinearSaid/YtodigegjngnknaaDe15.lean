/- Plain facts and contracts of functions of the program, out of walks. Their conditions stand ahead of each. -/
import Derived.Test.YtodigegjngnknaaDe3
import Derived.Test.YtodigegjngnknaaDe13
import Derived.Test.YtodigegjngnknaaShelf
import Derived.Below
import Derived.BigQuiet
import Derived.Deep.Draws
import Derived.Deep.QuietTactic
import Derived.Deep.RegionHeld3
import Derived.Laws.NewBlocks
import Derived.Laws.OwnMore
import Derived.Laws.Pointers
import Derived.Laws.Rows
import Derived.Lib.BitFns
import Derived.Lib.Hide
import Derived.Lib.ItoaNum
import Derived.RowKit3
import Derived.StillTactics
import Derived.StillTailTactics
import Derived.Test.YtodigegjngnknaaProg
import Derived.WalkKit
import Derived.WalkLawsBesides
import Derived.WalkSpells
set_option linter.unusedVariables false
set_option linter.unusedSimpArgs false
set_option exponentiation.threshold 10000
namespace Go.Proofs.Ytodigegjngnknaa
open Go.RowKit GW NL
theorem length_any (A : Option Addr) (c : Nat) (v : Nat) (w : World) (h : SlW w A c (limbs v)) (hl : (limbs v).length ≤ 1000000000) :
    Calls Try.prog 82 #[.slice A (limbs v).length c] w fun e w' => e = .returned (.int .i64 (nb v : Nat)) ∧ Below w.heap.size w w' := by
  by_cases h0 : v = 0
  · subst h0
    rw [limbs_zero, nb_zero]
    go_enter Try.func82, Try.ntmps82
    go_wp2_with fail
    go_ret
    exact ⟨rfl, Below.refl _ _⟩
  · obtain ⟨m, hm⟩ : ∃ m, (limbs v).length = m + 1 := ⟨(limbs v).length - 1, by have : (limbs v).length ≠ 0 := fun e => h0 (limbs_nil.1 (List.eq_nil_of_length_eq_zero e)); omega⟩
    obtain ⟨b, o, rfl, hcell⟩ := limW_cell h.lim (by omega)
    have e1 := hcell m (by omega)
    have hx := (ok_limbs v).getD m
    have HB := Lib.hid (nb_top hm)
    have CL := Lib.hid (fun w => Try.bits_Len32 ((((limbs v).getD m 0 : Nat)) : Int) w (by omega) (by omega))
    rw [show (((limbs v).getD m 0 : Nat) : Int).toNat = (limbs v).getD m 0 by omega, nb_bitLen _ hx] at CL
    have hb1 : nb ((limbs v).getD m 0) ≤ 32 := (nb_le _ _).2 hx
    clear hcell h h0
    generalize (limbs v).getD m 0 = x at *
    have HM := Lib.hid hm
    have hn1 : m + 1 ≤ (limbs v).length := by omega
    have hm2 : m ≤ 1000000000 := by omega
    have h1 : ((limbs v).length : Int) - 1 = m := by omega
    have hne : (((limbs v).length : Int) == 0) = false := by rw [beq_eq_false_iff_ne]; omega
    clear hm
    generalize (limbs v).length = n at *
    go_enter Try.func82, Try.ntmps82
    go_wp2_with ((go_at_call 110; refine (CL.out _).mono ?_; rintro e w1 ⟨rfl, rfl⟩))
    go_ret
    refine ⟨ret_int ?_, Below.refl _ _⟩
    rw [HB.out, Int.natCast_add, Int.natCast_mul]
    rfl
/-- a number and an error -/
def RNE (r : Nat × Int) (w : World) (e : Ending) (w' : World) : Prop := ∃ A c F, e = .returned (.tuple #[.slice A (limbs r.1).length c, .int .i64 r.2]) ∧ F.Sl A c (limbs r.1) ∧ New w w' F
theorem rne_err {w0 : World} {M : List Blk} {I : List Frag} (g : G w0 [] M I) (x : Int) : RNE (0, x) w0 (.returned (.tuple #[.slice none 0 0, .int .i64 x])) g.w :=
  ⟨none, 0, _, by simp only [limbs_zero]; rfl, by simp only [limbs_zero]; exact Frag.Sl.nil _ _, g.none⟩
theorem rne_pass {w0 : World} {M : List Blk} {I : List Frag} (g : G w0 [] M I) {A : Option Addr} {c v : Nat} {F : Frag} (hs : F.Sl A c (limbs v)) (hF : F ∈ I) (hn : ∀ k o, F k = some o → w0.heap.size ≤ k) (x : Int) : RNE (v, x) w0 (.returned (.tuple #[.slice A (limbs v).length c, .int .i64 x])) g.w :=
  ⟨A, c, F, rfl, hs, g.pass hF hn⟩
theorem val_trimmed (v : Nat) : limbs (val (limbs v)) = limbs v := by rw [val_limbs]
theorem fits_yes (A : Option Addr) (c : Nat) (v : Nat) (w : World) (h : SlW w A c (limbs v)) (hv : v < 2 ^ 8192) :
    Calls Try.prog 74 #[.slice A (limbs v).length c] w fun e w' => e = .returned (.tuple #[.slice A (limbs v).length c, .int .i64 0]) ∧ Below w.heap.size w w' := by
  have hl : (limbs v).length ≤ 256 := (limbs_len v 256).2 (by rw [pow32]; exact hv)
  have C := Lib.hid (trim_any A c (limbs v) w h)
  rw [val_limbs] at C
  clear hv h
  generalize (limbs v).length = n at *
  go_enter Try.func74, Try.ntmps74
  go_wp2_with fail
  refine C.out.mono ?_
  rintro e w1 ⟨rfl, hb⟩
  go_wp2_with fail
  go_ret2
  exact ⟨rfl, hb⟩
theorem fits_no (A : Option Addr) (c : Nat) (v : Nat) (w : World) (h : SlW w A c (limbs v)) (hv : ¬ v < 2 ^ 8192) :
    Calls Try.prog 74 #[.slice A (limbs v).length c] w fun e w' => e = .returned (.tuple #[.slice none 0 0, .int .i64 5]) ∧ Below w.heap.size w w' := by
  have hl : ¬ (limbs v).length ≤ 256 := fun hh => hv (by rw [← show 4294967296 ^ 256 = 2 ^ 8192 by rw [pow32]]; exact (limbs_len v 256).1 hh)
  have C := Lib.hid (trim_any A c (limbs v) w h)
  rw [val_limbs] at C
  have hmx := h.len
  have hmxx := h.max
  have hcp := h.cap
  clear hv h
  generalize (limbs v).length = n at *
  go_enter Try.func74, Try.ntmps74
  go_wp2_with fail
  refine C.out.mono ?_
  rintro e w1 ⟨rfl, hb⟩
  go_wp2_with fail
  go_ret2
  exact ⟨rfl, hb⟩
/-- the first error of two lists -/
def chk2 (l1 l2 : List Nat) : Int := if chk l1 ≠ 0 then chk l1 else chk l2
theorem check2_any (b : Nat) (A1 A2 : Option Addr) (c1 c2 : Nat) (l1 l2 : List Nat) (w : World) (h1 : SlW w A1 c1 l1) (h2 : SlW w A2 c2 l2) (e1 : w.cell? ⟨b, 0, none⟩ = some (.slice A1 l1.length c1)) (e2 : w.cell? ⟨b, 1, none⟩ = some (.slice A2 l2.length c2)) :
    Calls Try.prog 73 #[.slice (some ⟨b, 0, none⟩) 2 2] w fun e w' => e = .returned (.int .i64 (chk2 l1 l2)) ∧ Below w.heap.size w w' := by
  have C1 := Lib.hid (check_any A1 c1 l1 w h1)
  have C2 := Lib.hid (fun w1 (hb : Below w.heap.size w w1) => check_any A2 c2 l2 w1 (h2.mono (fun k o hk => (hb.block k (Frag.lt (heapOf_sub w) hk)).trans hk)))
  unfold chk2
  have hb2 := Lib.hid (fun w1 (hb : Below w.heap.size w w1) => (World.cell?_of_block (hb.block _ (World.block_lt_of_cell? w _ e2))).trans e2)
  clear h1 h2 e2
  by_cases hc : chk l1 = 0
  · rw [if_neg (by simp [hc])]
    rw [hc] at C1
    clear hc
    have fin : ∀ x : Bool, (chk l2 == 0) = x → Calls Try.prog 73 #[.slice (some ⟨b, 0, none⟩) 2 2] w fun e w' => e = .returned (.int .i64 (chk l2)) ∧ Below w.heap.size w w' := by
      intro x hr
      generalize chk l2 = r at *
      cases x
      all_goals
        go_enter Try.func73, Try.ntmps73
        go_wp2_with fail
        refine wp_loop_rounds 3 ?_
        rw [rounds_succ]
        go_wp2_with fail
        refine C1.out.mono ?_
        rintro e w1 ⟨rfl, hb⟩
        have e2' := hb2.out _ hb
        have C2' := Lib.hid (C2.out _ hb)
        clear C1 C2 hb2
        go_wp2_with (first | (rw [rounds_succ]) | (go_at_call 76; refine C2'.out.mono ?_; rintro e w2 ⟨rfl, hb3⟩))
      · go_ret
        exact ⟨rfl, hb.trans (hb3.mono hb.size)⟩
      · have hr0 : r = 0 := by simpa using hr
        subst hr0
        clear hr
        go_wp2_with (first | (rw [rounds_succ]) | (go_at_call 76; refine C2'.out.mono ?_; rintro e w2 ⟨rfl, hb3⟩))
        go_ret
        exact ⟨rfl, hb.trans (hb3.mono hb.size)⟩
    exact fin _ rfl
  · rw [if_pos (by simp [hc])]
    have hc1 : (chk l1 == 0) = false := by simp [hc]
    clear hc C2 hb2
    generalize chk l1 = r at *
    go_enter Try.func73, Try.ntmps73
    go_wp2_with fail
    refine wp_loop_rounds 3 ?_
    rw [rounds_succ]
    go_wp2_with fail
    refine C1.out.mono ?_
    rintro e w1 ⟨rfl, hb⟩
    go_wp2_with fail
    go_ret
    exact ⟨rfl, hb⟩
end Go.Proofs.Ytodigegjngnknaa
namespace Go.Proofs.Ytodigegjngnknaa
open Go.RowKit GW NL
/-- what a call returns: an error ahead, or the number if it fits -/
def outN (e : Int) (v : Nat) : Nat × Int := if e ≠ 0 then (0, e) else if v < 2 ^ 8192 then (v, 0) else (0, 5)
set_option maxRecDepth 20000 in
theorem Add_any (A1 A2 : Option Addr) (c1 c2 : Nat) (l1 l2 : List Nat) (w : World) (h1 : SlW w A1 c1 l1) (h2 : SlW w A2 c2 l2) (hl1 : l1.length ≤ 1000000000) (hl2 : l2.length ≤ 1000000000) :
    Calls Try.prog 45 #[.slice A1 l1.length c1, .slice A2 l2.length c2] w (RNE (outN (chk2 l1 l2) (val l1 + val l2)) w) := by
  refine calls_b fun g => ?_
  have CK := Lib.hid (fun b w h1 h2 e1 e2 => check2_any b A1 A2 c1 c2 l1 l2 w h1 h2 e1 e2)
  have CA := Lib.hid (fun w h1 h2 => add_any A1 A2 c1 c2 l1 l2 w h1 h2 hl1 hl2)
  have CY := Lib.hid (fun A c w h hv => fits_yes A c (val l1 + val l2) w h hv)
  have CN := Lib.hid (fun A c w h hv => fits_no A c (val l1 + val l2) w h hv)
  generalize val l1 + val l2 = v at *
  have hr : ∀ x : Bool, (chk2 l1 l2 == 0) = x → Calls Try.prog 45 #[.slice A1 l1.length c1, .slice A2 l2.length c2] g.w (RNE (outN (chk2 l1 l2) v) w) := by
    intro x hx
    generalize chk2 l1 l2 = r at *
    generalize l1.length = n1 at *
    generalize l2.length = n2 at *
    cases x
    · have hO : outN r v = (0, r) := by unfold outN; rw [if_pos (by simpa using hx)]
      rw [hO]
      clear hO
      go_enter Try.func45, Try.ntmps45
      go_wp2_with (with_reducible refine G.any_mark _ ?_; (try generalize Array.size (World.heap (G.w _)) = bk); (try dsimp only [List.set_cons_zero, List.set_cons_succ]); (try clear g); intro g)
      refine (CK.out _ _ (G.sl g (by simp) h1) (G.sl g (by simp) h2) ?_ ?_).mono ?_
      · go_simp
      · go_simp
      rintro e w1 ⟨rfl, hb⟩
      obtain ⟨g1, rfl⟩ := G.call_ex _ hb
      clear hb
      revert g1
      intro g
      go_wp2_with (with_reducible refine G.any_mark _ ?_; (try generalize Array.size (World.heap (G.w _)) = bk); (try dsimp only [List.set_cons_zero, List.set_cons_succ]); (try clear g); intro g)
      go_ret2
      exact rne_err g r
    · have hr0 : r = 0 := by simpa using hx
      subst hr0
      clear hx
      have hv' : v < 2 ^ 8192 ∨ ¬ v < 2 ^ 8192 := Decidable.em _
      rcases hv' with hv | hv
      · have hO : outN 0 v = (v, 0) := by unfold outN; rw [if_neg (by simp), if_pos hv]
        rw [hO]
        clear hO
        go_enter Try.func45, Try.ntmps45
        go_wp2_with (with_reducible refine G.any_mark _ ?_; (try generalize Array.size (World.heap (G.w _)) = bk); (try dsimp only [List.set_cons_zero, List.set_cons_succ]); (try clear g); intro g)
        refine (CK.out _ _ (G.sl g (by simp) h1) (G.sl g (by simp) h2) ?_ ?_).mono ?_
        · go_simp
        · go_simp
        rintro e w1 ⟨rfl, hb⟩
        obtain ⟨g1, rfl⟩ := G.call_ex _ hb
        clear hb
        revert g1
        intro g
        go_wp2_with (with_reducible refine G.any_mark _ ?_; (try generalize Array.size (World.heap (G.w _)) = bk); (try dsimp only [List.set_cons_zero, List.set_cons_succ]); (try clear g); intro g)
        refine (CA.out _ (G.sl g (by simp) h1) (G.sl g (by simp) h2)).mono ?_
        rintro e w1 ⟨A, c, F, rfl, hs, hn⟩
        have hnn := fun k o hk => Nat.le_trans g.chg.size (hn.new k o hk)
        obtain ⟨g1, rfl⟩ := G.new_ex _ hn
        clear hn
        revert g1
        intro g
        go_wp2_with (with_reducible refine G.any_mark _ ?_; (try generalize Array.size (World.heap (G.w _)) = bk); (try dsimp only [List.set_cons_zero, List.set_cons_succ]); (try clear g); intro g)
        refine (CY.out _ _ _ (G.sl g (by simp) hs) hv).mono ?_
        rintro e w1 ⟨rfl, hb⟩
        obtain ⟨g1, rfl⟩ := G.call_ex _ hb
        clear hb
        revert g1
        intro g
        go_wp2_with (with_reducible refine G.any_mark _ ?_; (try generalize Array.size (World.heap (G.w _)) = bk); (try dsimp only [List.set_cons_zero, List.set_cons_succ]); (try clear g); intro g)
        go_ret2
        exact rne_pass g hs (by simp) hnn 0
      · have hO : outN 0 v = (0, 5) := by unfold outN; rw [if_neg (by simp), if_neg hv]
        rw [hO]
        clear hO
        go_enter Try.func45, Try.ntmps45
        go_wp2_with (with_reducible refine G.any_mark _ ?_; (try generalize Array.size (World.heap (G.w _)) = bk); (try dsimp only [List.set_cons_zero, List.set_cons_succ]); (try clear g); intro g)
        refine (CK.out _ _ (G.sl g (by simp) h1) (G.sl g (by simp) h2) ?_ ?_).mono ?_
        · go_simp
        · go_simp
        rintro e w1 ⟨rfl, hb⟩
        obtain ⟨g1, rfl⟩ := G.call_ex _ hb
        clear hb
        revert g1
        intro g
        go_wp2_with (with_reducible refine G.any_mark _ ?_; (try generalize Array.size (World.heap (G.w _)) = bk); (try dsimp only [List.set_cons_zero, List.set_cons_succ]); (try clear g); intro g)
        refine (CA.out _ (G.sl g (by simp) h1) (G.sl g (by simp) h2)).mono ?_
        rintro e w1 ⟨A, c, F, rfl, hs, hn⟩
        obtain ⟨g1, rfl⟩ := G.new_ex _ hn
        clear hn
        revert g1
        intro g
        go_wp2_with (with_reducible refine G.any_mark _ ?_; (try generalize Array.size (World.heap (G.w _)) = bk); (try dsimp only [List.set_cons_zero, List.set_cons_succ]); (try clear g); intro g)
        refine (CN.out _ _ _ (G.sl g (by simp) hs) hv).mono ?_
        rintro e w1 ⟨rfl, hb⟩
        obtain ⟨g1, rfl⟩ := G.call_ex _ hb
        clear hb
        revert g1
        intro g
        go_wp2_with (with_reducible refine G.any_mark _ ?_; (try generalize Array.size (World.heap (G.w _)) = bk); (try dsimp only [List.set_cons_zero, List.set_cons_succ]); (try clear g); intro g)
        go_ret2
        exact rne_err g 5
  exact hr _ rfl
set_option maxRecDepth 20000 in
theorem Mul_any (A1 A2 : Option Addr) (c1 c2 : Nat) (l1 l2 : List Nat) (w : World) (h1 : SlW w A1 c1 l1) (h2 : SlW w A2 c2 l2) (hl1 : l1.length ≤ 1000000000) (hl2 : l2.length ≤ 1000000000) :
    Calls Try.prog 50 #[.slice A1 l1.length c1, .slice A2 l2.length c2] w (RNE (outN (chk2 l1 l2) (val l1 * val l2)) w) := by
  refine calls_b fun g => ?_
  have CK := Lib.hid (fun b w h1 h2 e1 e2 => check2_any b A1 A2 c1 c2 l1 l2 w h1 h2 e1 e2)
  have CA := Lib.hid (fun w h1 h2 => mul_any A1 A2 c1 c2 l1 l2 w h1 h2 hl1 hl2)
  have CY := Lib.hid (fun A c w h hv => fits_yes A c (val l1 * val l2) w h hv)
  have CN := Lib.hid (fun A c w h hv => fits_no A c (val l1 * val l2) w h hv)
  generalize val l1 * val l2 = v at *
  have hr : ∀ x : Bool, (chk2 l1 l2 == 0) = x → Calls Try.prog 50 #[.slice A1 l1.length c1, .slice A2 l2.length c2] g.w (RNE (outN (chk2 l1 l2) v) w) := by
    intro x hx
    generalize chk2 l1 l2 = r at *
    generalize l1.length = n1 at *
    generalize l2.length = n2 at *
    cases x
    · have hO : outN r v = (0, r) := by unfold outN; rw [if_pos (by simpa using hx)]
      rw [hO]
      clear hO
      go_enter Try.func50, Try.ntmps50
      go_wp2_with (with_reducible refine G.any_mark _ ?_; (try generalize Array.size (World.heap (G.w _)) = bk); (try dsimp only [List.set_cons_zero, List.set_cons_succ]); (try clear g); intro g)
      refine (CK.out _ _ (G.sl g (by simp) h1) (G.sl g (by simp) h2) ?_ ?_).mono ?_
      · go_simp
      · go_simp
      rintro e w1 ⟨rfl, hb⟩
      obtain ⟨g1, rfl⟩ := G.call_ex _ hb
      clear hb
      revert g1
      intro g
      go_wp2_with (with_reducible refine G.any_mark _ ?_; (try generalize Array.size (World.heap (G.w _)) = bk); (try dsimp only [List.set_cons_zero, List.set_cons_succ]); (try clear g); intro g)
      go_ret2
      exact rne_err g r
    · have hr0 : r = 0 := by simpa using hx
      subst hr0
      clear hx
      have hv' : v < 2 ^ 8192 ∨ ¬ v < 2 ^ 8192 := Decidable.em _
      rcases hv' with hv | hv
      · have hO : outN 0 v = (v, 0) := by unfold outN; rw [if_neg (by simp), if_pos hv]
        rw [hO]
        clear hO
        go_enter Try.func50, Try.ntmps50
        go_wp2_with (with_reducible refine G.any_mark _ ?_; (try generalize Array.size (World.heap (G.w _)) = bk); (try dsimp only [List.set_cons_zero, List.set_cons_succ]); (try clear g); intro g)
        refine (CK.out _ _ (G.sl g (by simp) h1) (G.sl g (by simp) h2) ?_ ?_).mono ?_
        · go_simp
        · go_simp
        rintro e w1 ⟨rfl, hb⟩
        obtain ⟨g1, rfl⟩ := G.call_ex _ hb
        clear hb
        revert g1
        intro g
        go_wp2_with (with_reducible refine G.any_mark _ ?_; (try generalize Array.size (World.heap (G.w _)) = bk); (try dsimp only [List.set_cons_zero, List.set_cons_succ]); (try clear g); intro g)
        refine (CA.out _ (G.sl g (by simp) h1) (G.sl g (by simp) h2)).mono ?_
        rintro e w1 ⟨A, c, F, rfl, hs, hn⟩
        have hnn := fun k o hk => Nat.le_trans g.chg.size (hn.new k o hk)
        obtain ⟨g1, rfl⟩ := G.new_ex _ hn
        clear hn
        revert g1
        intro g
        go_wp2_with (with_reducible refine G.any_mark _ ?_; (try generalize Array.size (World.heap (G.w _)) = bk); (try dsimp only [List.set_cons_zero, List.set_cons_succ]); (try clear g); intro g)
        refine (CY.out _ _ _ (G.sl g (by simp) hs) hv).mono ?_
        rintro e w1 ⟨rfl, hb⟩
        obtain ⟨g1, rfl⟩ := G.call_ex _ hb
        clear hb
        revert g1
        intro g
        go_wp2_with (with_reducible refine G.any_mark _ ?_; (try generalize Array.size (World.heap (G.w _)) = bk); (try dsimp only [List.set_cons_zero, List.set_cons_succ]); (try clear g); intro g)
        go_ret2
        exact rne_pass g hs (by simp) hnn 0
      · have hO : outN 0 v = (0, 5) := by unfold outN; rw [if_neg (by simp), if_neg hv]
        rw [hO]
        clear hO
        go_enter Try.func50, Try.ntmps50
        go_wp2_with (with_reducible refine G.any_mark _ ?_; (try generalize Array.size (World.heap (G.w _)) = bk); (try dsimp only [List.set_cons_zero, List.set_cons_succ]); (try clear g); intro g)
        refine (CK.out _ _ (G.sl g (by simp) h1) (G.sl g (by simp) h2) ?_ ?_).mono ?_
        · go_simp
        · go_simp
        rintro e w1 ⟨rfl, hb⟩
        obtain ⟨g1, rfl⟩ := G.call_ex _ hb
        clear hb
        revert g1
        intro g
        go_wp2_with (with_reducible refine G.any_mark _ ?_; (try generalize Array.size (World.heap (G.w _)) = bk); (try dsimp only [List.set_cons_zero, List.set_cons_succ]); (try clear g); intro g)
        refine (CA.out _ (G.sl g (by simp) h1) (G.sl g (by simp) h2)).mono ?_
        rintro e w1 ⟨A, c, F, rfl, hs, hn⟩
        obtain ⟨g1, rfl⟩ := G.new_ex _ hn
        clear hn
        revert g1
        intro g
        go_wp2_with (with_reducible refine G.any_mark _ ?_; (try generalize Array.size (World.heap (G.w _)) = bk); (try dsimp only [List.set_cons_zero, List.set_cons_succ]); (try clear g); intro g)
        refine (CN.out _ _ _ (G.sl g (by simp) hs) hv).mono ?_
        rintro e w1 ⟨rfl, hb⟩
        obtain ⟨g1, rfl⟩ := G.call_ex _ hb
        clear hb
        revert g1
        intro g
        go_wp2_with (with_reducible refine G.any_mark _ ?_; (try generalize Array.size (World.heap (G.w _)) = bk); (try dsimp only [List.set_cons_zero, List.set_cons_succ]); (try clear g); intro g)
        go_ret2
        exact rne_err g 5
  exact hr _ rfl
end Go.Proofs.Ytodigegjngnknaa
namespace Go.Proofs.Ytodigegjngnknaa
open Go.RowKit GW NL
theorem Of_neg (a : Int) (h0 : a < 0) (h1 : -9223372036854775808 ≤ a) (w : World) : Calls Try.prog 53 #[.int .i64 a] w (RNE (0, 2) w) := by
  refine calls_b fun g => ?_
  go_enter Try.func53, Try.ntmps53
  go_wp2_with (with_reducible refine G.any_mark _ ?_; (try generalize Array.size (World.heap (G.w _)) = bk); (try dsimp only [List.set_cons_zero, List.set_cons_succ]); (try clear g); intro g)
  go_ret2
  exact rne_err g 2
theorem two_limbs (n : Nat) (h : n < 9223372036854775808) : val [n % 4294967296, n / 4294967296] = n ∧ Ok [n % 4294967296, n / 4294967296] := by
  refine ⟨by simp [val]; omega, ?_⟩
  intro x hx
  simp at hx
  omega
theorem Of_pos (n : Nat) (h1 : n < 9223372036854775808) (w : World) : Calls Try.prog 53 #[.int .i64 n] w (RNE (n, 0) w) := by
  refine calls_b fun g => ?_
  obtain ⟨hv, hk⟩ := two_limbs n h1
  have HV := Lib.hid hv
  have e1 : (((n % 4294967296 : Nat)) : Int) = (n : Int) % 4294967296 := by omega
  have e2 : (((n / 4294967296 : Nat)) : Int) = (n : Int) / 4294967296 := by omega
  have E1 := Lib.hid e1
  have E2 := Lib.hid e2
  clear hv e1 e2
  go_enter Try.func53, Try.ntmps53
  go_wp2_with (with_reducible refine G.any_mark _ ?_; (try generalize Array.size (World.heap (G.w _)) = bk); (try dsimp only [List.set_cons_zero, List.set_cons_succ]); (try clear g); intro g)
  obtain ⟨g2, hg2⟩ := g.as (M' := [(bk, 82, u32s [n % 4294967296, n / 4294967296])]) (by simp only [u32s, List.map_cons, List.map_nil, E1.out, E2.out])
  rw [hg2]
  clear hg2 g
  revert g2
  intro g
  have hsl : SlW g.w (some ⟨bk, 0, none⟩) 2 [n % 4294967296, n / 4294967296] := (sl_blk (by simp) (by decide) hk).at (blkF_sub g.blk0)
  refine (trim_any _ _ [n % 4294967296, n / 4294967296] _ hsl).mono ?_
  rintro e w1 ⟨rfl, hb⟩
  obtain ⟨g1, rfl⟩ := G.call_ex _ hb
  clear hb hsl g
  revert g1
  intro g
  rw [HV.out]
  have hfin : (blkF bk (.cells (u32s [n % 4294967296, n / 4294967296]).toArray 82 (0, 0))).Sl (some ⟨bk, 0, none⟩) 2 (limbs n) := by
    have := sl_trim (sl_blk (b := bk) (T := 82) (fr := (0, 0)) (c := 2) (by simp) (by decide) hk)
    rwa [HV.out] at this
  go_wp2_with (with_reducible refine G.any_mark _ ?_; (try generalize Array.size (World.heap (G.w _)) = bk); (try dsimp only [List.set_cons_zero, List.set_cons_succ]); (try clear g); intro g)
  go_ret2
  exact ⟨_, 2, _, rfl, hfin, g.give (List.mem_cons_self ..)⟩
end Go.Proofs.Ytodigegjngnknaa
