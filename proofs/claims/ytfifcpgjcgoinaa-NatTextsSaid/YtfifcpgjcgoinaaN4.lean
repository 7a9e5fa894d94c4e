/- Contracts of functions of the program, out of walks. Their conditions stand ahead of each. -/
import Derived.Test.YtfifcpgjcgoinaaN3
import Derived.Test.YtfifcpgjcgoinaaNl3
import Derived.Test.YtfifcpgjcgoinaaShelf
set_option linter.unusedVariables false
set_option linter.unusedSimpArgs false
namespace Go.Proofs.Ytfifcpgjcgoinaa
open Go.RowKit GW NL
theorem length_any (A : Option Addr) (c : Nat) (v : Nat) (w : World) (h : SlW w A c (limbs v)) (hl : (limbs v).length ≤ 1000000000) :
    Calls Try.prog 69 #[.slice A (limbs v).length c] w fun e w' => e = .returned (.int .i64 (nb v : Nat)) ∧ Below w.heap.size w w' := by
  by_cases h0 : v = 0
  · subst h0
    rw [limbs_zero, nb_zero]
    go_enter Try.func69, Try.ntmps69
    go_wp2_with fail
    go_ret
    exact ⟨rfl, Below.refl _ _⟩
  · obtain ⟨m, hm⟩ : ∃ m, (limbs v).length = m + 1 := ⟨(limbs v).length - 1, by have : (limbs v).length ≠ 0 := fun e => h0 (limbs_nil.1 (List.eq_nil_of_length_eq_zero e)); omega⟩
    obtain ⟨b, o, rfl, hcell⟩ := limW_cell h.lim (by omega)
    have e1 := hcell m (by omega)
    have hx := (ok_limbs v).getD m
    have HB := Lib.hid (nb_top hm)
    have CL := Lib.hid (fun w => Try.bits_Len32 ((((limbs v).getD m 0 : Nat)) : Int) w (by omega) (by omega))
    rw [show (((limbs v).getD m 0 : Nat) : Int).toNat = (limbs v).getD m 0 by omega, nb_bitLen _ hx] at CL
    have hb1 : nb ((limbs v).getD m 0) ≤ 32 := (nb_le _ _).2 hx
    clear hcell h h0
    generalize (limbs v).getD m 0 = x at *
    have HM := Lib.hid hm
    have hn1 : m + 1 ≤ (limbs v).length := by omega
    have hm2 : m ≤ 1000000000 := by omega
    have h1 : ((limbs v).length : Int) - 1 = m := by omega
    have hne : (((limbs v).length : Int) == 0) = false := by rw [beq_eq_false_iff_ne]; omega
    clear hm
    generalize (limbs v).length = n at *
    go_enter Try.func69, Try.ntmps69
    go_wp2_with ((go_at_call 88; refine (CL.out _).mono ?_; rintro e w1 ⟨rfl, rfl⟩))
    go_ret
    refine ⟨ret_int ?_, Below.refl _ _⟩
    rw [HB.out, Int.natCast_add, Int.natCast_mul]
    rfl
/-- a number and an error -/
def RNE (r : Nat × Int) (w : World) (e : Ending) (w' : World) : Prop := ∃ A c F, e = .returned (.tuple #[.slice A (limbs r.1).length c, .int .i64 r.2]) ∧ F.Sl A c (limbs r.1) ∧ New w w' F
theorem rne_err {w0 : World} {M : List Blk} {I : List Frag} (g : G w0 [] M I) (x : Int) : RNE (0, x) w0 (.returned (.tuple #[.slice none 0 0, .int .i64 x])) g.w :=
  ⟨none, 0, _, by simp only [limbs_zero]; rfl, by simp only [limbs_zero]; exact Frag.Sl.nil _ _, g.none⟩
theorem rne_pass {w0 : World} {M : List Blk} {I : List Frag} (g : G w0 [] M I) {A : Option Addr} {c v : Nat} {F : Frag} (hs : F.Sl A c (limbs v)) (hF : F ∈ I) (hn : ∀ k o, F k = some o → w0.heap.size ≤ k) (x : Int) : RNE (v, x) w0 (.returned (.tuple #[.slice A (limbs v).length c, .int .i64 x])) g.w :=
  ⟨A, c, F, rfl, hs, g.pass hF hn⟩
theorem val_trimmed (v : Nat) : limbs (val (limbs v)) = limbs v := by rw [val_limbs]
set_option exponentiation.threshold 10000
theorem fits_yes (A : Option Addr) (c : Nat) (v : Nat) (w : World) (h : SlW w A c (limbs v)) (hv : v < 2 ^ 8192) :
    Calls Try.prog 52 #[.slice A (limbs v).length c] w fun e w' => e = .returned (.tuple #[.slice A (limbs v).length c, .int .i64 0]) ∧ Below w.heap.size w w' := by
  have hl : (limbs v).length ≤ 256 := (limbs_len v 256).2 (by rw [pow32]; exact hv)
  have C := Lib.hid (trim_any A c (limbs v) w h)
  rw [val_limbs] at C
  clear hv h
  generalize (limbs v).length = n at *
  go_enter Try.func52, Try.ntmps52
  go_wp2_with fail
  refine C.out.mono ?_
  rintro e w1 ⟨rfl, hb⟩
  go_wp2_with fail
  go_ret2
  exact ⟨rfl, hb⟩
theorem fits_no (A : Option Addr) (c : Nat) (v : Nat) (w : World) (h : SlW w A c (limbs v)) (hv : ¬ v < 2 ^ 8192) :
    Calls Try.prog 52 #[.slice A (limbs v).length c] w fun e w' => e = .returned (.tuple #[.slice none 0 0, .int .i64 5]) ∧ Below w.heap.size w w' := by
  have hl : ¬ (limbs v).length ≤ 256 := fun hh => hv (by rw [← show 4294967296 ^ 256 = 2 ^ 8192 by rw [pow32]]; exact (limbs_len v 256).1 hh)
  have C := Lib.hid (trim_any A c (limbs v) w h)
  rw [val_limbs] at C
  have hmx := h.len
  have hmxx := h.max
  have hcp := h.cap
  clear hv h
  generalize (limbs v).length = n at *
  go_enter Try.func52, Try.ntmps52
  go_wp2_with fail
  refine C.out.mono ?_
  rintro e w1 ⟨rfl, hb⟩
  go_wp2_with fail
  go_ret2
  exact ⟨rfl, hb⟩
/-- the first error of two lists -/
def chk2 (l1 l2 : List Nat) : Int := if chk l1 ≠ 0 then chk l1 else chk l2
theorem check2_any (b : Nat) (A1 A2 : Option Addr) (c1 c2 : Nat) (l1 l2 : List Nat) (w : World) (h1 : SlW w A1 c1 l1) (h2 : SlW w A2 c2 l2) (e1 : w.cell? ⟨b, 0, none⟩ = some (.slice A1 l1.length c1)) (e2 : w.cell? ⟨b, 1, none⟩ = some (.slice A2 l2.length c2)) :
    Calls Try.prog 49 #[.slice (some ⟨b, 0, none⟩) 2 2] w fun e w' => e = .returned (.int .i64 (chk2 l1 l2)) ∧ Below w.heap.size w w' := by
  have C1 := Lib.hid (check_any A1 c1 l1 w h1)
  have C2 := Lib.hid (fun w1 (hb : Below w.heap.size w w1) => check_any A2 c2 l2 w1 (h2.mono (fun k o hk => (hb.block k (Frag.lt (heapOf_sub w) hk)).trans hk)))
  unfold chk2
  have hb2 := Lib.hid (fun w1 (hb : Below w.heap.size w w1) => (World.cell?_of_block (hb.block _ (World.block_lt_of_cell? w _ e2))).trans e2)
  clear h1 h2 e2
  by_cases hc : chk l1 = 0
  · rw [if_neg (by simp [hc])]
    rw [hc] at C1
    clear hc
    have fin : ∀ x : Bool, (chk l2 == 0) = x → Calls Try.prog 49 #[.slice (some ⟨b, 0, none⟩) 2 2] w fun e w' => e = .returned (.int .i64 (chk l2)) ∧ Below w.heap.size w w' := by
      intro x hr
      generalize chk l2 = r at *
      cases x
      all_goals
        go_enter Try.func49, Try.ntmps49
        go_wp2_with fail
        refine wp_loop_rounds 3 ?_
        rw [rounds_succ]
        go_wp2_with fail
        refine C1.out.mono ?_
        rintro e w1 ⟨rfl, hb⟩
        have e2' := hb2.out _ hb
        have C2' := Lib.hid (C2.out _ hb)
        clear C1 C2 hb2
        go_wp2_with (first | (rw [rounds_succ]) | (go_at_call 43; refine C2'.out.mono ?_; rintro e w2 ⟨rfl, hb3⟩))
      · go_ret
        exact ⟨rfl, hb.trans (hb3.mono hb.size)⟩
      · have hr0 : r = 0 := by simpa using hr
        subst hr0
        clear hr
        go_wp2_with (first | (rw [rounds_succ]) | (go_at_call 43; refine C2'.out.mono ?_; rintro e w2 ⟨rfl, hb3⟩))
        go_ret
        exact ⟨rfl, hb.trans (hb3.mono hb.size)⟩
    exact fin _ rfl
  · rw [if_pos (by simp [hc])]
    have hc1 : (chk l1 == 0) = false := by simp [hc]
    clear hc C2 hb2
    generalize chk l1 = r at *
    go_enter Try.func49, Try.ntmps49
    go_wp2_with fail
    refine wp_loop_rounds 3 ?_
    rw [rounds_succ]
    go_wp2_with fail
    refine C1.out.mono ?_
    rintro e w1 ⟨rfl, hb⟩
    go_wp2_with fail
    go_ret
    exact ⟨rfl, hb⟩
end Go.Proofs.Ytfifcpgjcgoinaa
