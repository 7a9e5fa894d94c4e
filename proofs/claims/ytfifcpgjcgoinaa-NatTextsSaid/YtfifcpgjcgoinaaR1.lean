/- Contracts of functions of the program, out of walks. Their conditions stand ahead of each. -/
import Derived.Test.YtfifcpgjcgoinaaN28
import Derived.BigQuiet
import Derived.Test.YtfifcpgjcgoinaaNp5
set_option linter.unusedVariables false
set_option linter.unusedSimpArgs false
set_option exponentiation.threshold 10000
namespace Go.Proofs.Ytfifcpgjcgoinaa
open Go.RowKit GW NL
theorem rcheck_any (A : Option Addr) (c : Nat) (l : List Nat) (w : World) (h : SlW w A c l) :
    Calls Try.prog 44 #[.slice A l.length c] w fun e w' => e = .returned (.int .i64 (chk l)) ∧ Below w.heap.size w w' := by
  have hm := h.len
  have hmm := h.max
  have hc := h.cap
  unfold chk
  by_cases h1 : 256 < l.length
  · rw [if_pos h1]
    generalize l.length = n at *
    go_enter Try.func44, Try.ntmps44
    go_wp2_with fail
    go_ret
    exact ⟨rfl, Below.refl _ _⟩
  · rw [if_neg h1]
    by_cases h0 : 0 < l.length
    · obtain ⟨b, o, rfl, hcell⟩ := limW_cell h.lim (by omega)
      have e1 := hcell (l.length - 1) (by omega)
      clear hcell h
      generalize l.getD (l.length - 1) 0 = x at e1 ⊢
      generalize l.length = m at *
      have h0' : (0 : Int) < (m : Int) := by omega
      by_cases hx : x = 0
      · rw [if_pos ⟨by omega, hx⟩]
        have hx1 : (((x : Nat) : Int) == 0) = true := by simp [hx]
        clear hx
        generalize ((x : Nat) : Int) = v at *
        go_enter Try.func44, Try.ntmps44
        go_wp2_with fail
        go_ret
        exact ⟨rfl, Below.refl _ _⟩
      · rw [if_neg (by omega)]
        have hx1 : (((x : Nat) : Int) == 0) = false := by simp [hx]
        clear hx
        generalize ((x : Nat) : Int) = v at *
        go_enter Try.func44, Try.ntmps44
        go_wp2_with fail
        go_ret
        exact ⟨rfl, Below.refl _ _⟩
    · rw [if_neg (by omega)]
      have hl : l.length = 0 := by omega
      rw [hl]
      go_enter Try.func44, Try.ntmps44
      go_wp2_with fail
      go_ret
      exact ⟨rfl, Below.refl _ _⟩
/-- trim: the limbs without zeros at the end; the slice keeps its address -/
theorem rtrim_any (A : Option Addr) (c : Nat) (l : List Nat) (w : World) (h : SlW w A c l) :
    Calls Try.prog 57 #[.slice A l.length c] w fun e w' => e = .returned (.slice A (limbs (val l)).length c) ∧ Below w.heap.size w w' := by
  have hm := h.len
  have hmm := h.max
  have hc := h.cap
  have hk := h.ok
  go_enter Try.func57, Try.ntmps57
  go_wp2_with fail
  go_loopw [0] (fun v wr => ∃ k : Nat, k ≤ l.length ∧ v = .slice A k c ∧ val (l.take k) = val l ∧ Below w.heap.size w wr) (fun v _ => match v with | .slice _ k _ => k | _ => 0)
  case atStart => exact ⟨l.length, Nat.le_refl _, rfl, by rw [List.take_length], Below.refl _ _⟩
  case round =>
    obtain ⟨k, hk1, rfl, hv, hb⟩ := hrel
    have HV := Lib.hid hv
    clear hv
    by_cases h0 : 0 < k
    · obtain ⟨b, o, rfl, hcell⟩ := limW_cell h.lim (by omega)
      have e1 := (World.cell?_of_block (hb.block _ (World.block_lt_of_cell? w _ (hcell (k - 1) (by omega))))).trans (hcell (k - 1) (by omega))
      clear hcell h
      have hn : (limbs (val l)).length ≤ k := by
        rw [← HV.out]
        have := limbs_len_le_of_ok (hk.take k)
        rw [List.length_take] at this
        omega
      have h0' : (0 : Int) < (k : Int) := by omega
      by_cases hx : l.getD (k - 1) 0 = 0
      · have hv' : val (l.take (k - 1)) = val l := by
          rw [← HV.out]
          have := val_take_getD l (k - 1)
          rw [show k - 1 + 1 = k by omega, hx] at this
          omega
        have HV' := Lib.hid hv'
        clear hv'
        have hx1 : (((l.getD (k - 1) 0 : Nat) : Int) == 0) = true := by simp only [hx]; rfl
        clear hx
        generalize ((l.getD (k - 1) 0 : Nat) : Int) = v at *
        go_wp2_with fail
        refine ⟨⟨k - 1, by omega, ?_, HV'.out, hb⟩, ?_⟩
        · rfl
        · dsimp only; omega
      · have hn' : (limbs (val l)).length = k := by
          have hl : (l.take k).length = k := by rw [List.length_take]; omega
          have t : Trim (l.take k) := by
            intro j hj
            rw [hl] at hj
            rw [getD_take (by omega), show j = k - 1 by omega]
            exact hx
          rw [← HV.out, limbs_val (hk.take k) t, hl]
        have HN := Lib.hid hn'
        clear hn'
        have hx1 : (((l.getD (k - 1) 0 : Nat) : Int) == 0) = false := by simp only [beq_eq_false_iff_ne, ne_eq]; omega
        clear hx
        generalize ((l.getD (k - 1) 0 : Nat) : Int) = v at *
        go_wp2_with fail
        go_ret
        exact ⟨ret_slice HN.out.symm, hb⟩
    · obtain rfl : k = 0 := by omega
      have hn' : (limbs (val l)).length = 0 := by
        have := HV.out
        rw [List.take_zero] at this
        rw [← this]
        rw [show val [] = 0 from rfl, limbs_zero]; rfl
      have HN := Lib.hid hn'
      clear hn'
      go_wp2_with fail
      go_ret
      exact ⟨ret_slice HN.out.symm, hb⟩
theorem rfits_yes (A : Option Addr) (c : Nat) (v : Nat) (w : World) (h : SlW w A c (limbs v)) (hv : v < 2 ^ 8192) :
    Calls Try.prog 64 #[.slice A (limbs v).length c] w fun e w' => e = .returned (.tuple #[.slice A (limbs v).length c, .int .i64 0]) ∧ Below w.heap.size w w' := by
  have hl : (limbs v).length ≤ 256 := (limbs_len v 256).2 (by rw [pow32]; exact hv)
  have C := Lib.hid (rtrim_any A c (limbs v) w h)
  rw [val_limbs] at C
  clear hv h
  generalize (limbs v).length = n at *
  go_enter Try.func64, Try.ntmps64
  go_wp2_with fail
  refine C.out.mono ?_
  rintro e w1 ⟨rfl, hb⟩
  go_wp2_with fail
  go_ret2
  exact ⟨rfl, hb⟩
theorem rfits_no (A : Option Addr) (c : Nat) (v : Nat) (w : World) (h : SlW w A c (limbs v)) (hv : ¬ v < 2 ^ 8192) :
    Calls Try.prog 64 #[.slice A (limbs v).length c] w fun e w' => e = .returned (.tuple #[.slice none 0 0, .int .i64 5]) ∧ Below w.heap.size w w' := by
  have hl : ¬ (limbs v).length ≤ 256 := fun hh => hv (by rw [← show 4294967296 ^ 256 = 2 ^ 8192 by rw [pow32]]; exact (limbs_len v 256).1 hh)
  have C := Lib.hid (rtrim_any A c (limbs v) w h)
  rw [val_limbs] at C
  have hmx := h.len
  have hmxx := h.max
  have hcp := h.cap
  clear hv h
  generalize (limbs v).length = n at *
  go_enter Try.func64, Try.ntmps64
  go_wp2_with fail
  refine C.out.mono ?_
  rintro e w1 ⟨rfl, hb⟩
  go_wp2_with fail
  go_ret2
  exact ⟨rfl, hb⟩
theorem both_any (A1 A2 : Option Addr) (c1 c2 : Nat) (l1 l2 : List Nat) (w : World) (h1 : SlW w A1 c1 l1) (h2 : SlW w A2 c2 l2) :
    Calls Try.prog 67 #[.slice A1 l1.length c1, .slice A2 l2.length c2] w fun e w' => e = .returned (.int .i64 (chk2 l1 l2)) ∧ Below w.heap.size w w' := by
  refine calls_b fun g => ?_
  have C1 := Lib.hid (fun w h => rcheck_any A1 c1 l1 w h)
  have C2 := Lib.hid (fun w h => rcheck_any A2 c2 l2 w h)
  unfold chk2
  by_cases hx : chk l1 = 0
  · rw [if_neg (by simpa using hx)]
    rw [hx] at C1
    clear hx
    generalize chk l2 = r at *
    generalize l1.length = n1 at *
    generalize l2.length = n2 at *
    go_enter Try.func67, Try.ntmps67
    go_wp2_with (with_reducible refine G.any_mark _ ?_; (try generalize Array.size (World.heap (G.w _)) = bk); (try dsimp only [List.set_cons_zero, List.set_cons_succ]); (try clear g); intro g)
    refine (C1.out _ (G.sl g (by simp) h1)).mono ?_
    rintro e w1 ⟨rfl, hb⟩
    obtain ⟨g1, rfl⟩ := G.call_ex _ hb
    clear hb
    (try clear g)
    revert g1
    intro g
    go_wp2_with (with_reducible refine G.any_mark _ ?_; (try generalize Array.size (World.heap (G.w _)) = bk); (try dsimp only [List.set_cons_zero, List.set_cons_succ]); (try clear g); intro g)
    refine (C2.out _ (G.sl g (by simp) h2)).mono ?_
    rintro e w1 ⟨rfl, hb⟩
    obtain ⟨g1, rfl⟩ := G.call_ex _ hb
    clear hb
    (try clear g)
    revert g1
    intro g
    go_wp2_with (with_reducible refine G.any_mark _ ?_; (try generalize Array.size (World.heap (G.w _)) = bk); (try dsimp only [List.set_cons_zero, List.set_cons_succ]); (try clear g); intro g)
    go_ret
    exact ⟨rfl, g.below⟩
  · rw [if_pos hx]
    have hx' : (chk l1 == 0) = false := by simpa using hx
    clear hx
    generalize chk l1 = r at *
    generalize l1.length = n1 at *
    generalize l2.length = n2 at *
    go_enter Try.func67, Try.ntmps67
    go_wp2_with (with_reducible refine G.any_mark _ ?_; (try generalize Array.size (World.heap (G.w _)) = bk); (try dsimp only [List.set_cons_zero, List.set_cons_succ]); (try clear g); intro g)
    refine (C1.out _ (G.sl g (by simp) h1)).mono ?_
    rintro e w1 ⟨rfl, hb⟩
    obtain ⟨g1, rfl⟩ := G.call_ex _ hb
    clear hb
    (try clear g)
    revert g1
    intro g
    go_wp2_with (with_reducible refine G.any_mark _ ?_; (try generalize Array.size (World.heap (G.w _)) = bk); (try dsimp only [List.set_cons_zero, List.set_cons_succ]); (try clear g); intro g)
    go_ret
    exact ⟨rfl, g.below⟩
theorem rlimb_any (A : Option Addr) (c : Nat) (l : List Nat) (i : Nat) (w : World) (h : SlW w A c l) (hi : i ≤ 1000000000000) :
    Calls Try.prog 89 #[.slice A l.length c, .int .i64 i] w fun e w' => e = .returned (.int .u64 ((l.getD i 0 : Nat) : Int)) ∧ w = w' := by
  have hm := h.len
  have hmm := h.max
  have hc := h.cap
  by_cases hlt : i < l.length
  · obtain ⟨b, o, rfl, hcell⟩ := limW_cell h.lim (by omega)
    have e1 := hcell i hlt
    have hx := h.ok.getD i
    clear hcell h
    generalize l.getD i 0 = x at e1 hx ⊢
    generalize l.length = n at *
    have hw : IntKind.u64.wrap (x : Int) = (x : Int) := by rw [IntKind.wrap_u64]; omega
    have hl : ¬ ((n : Int) ≤ (i : Int)) := by omega
    go_enter Try.func89, Try.ntmps89
    go_wp2_with fail
    go_ret
    exact ⟨rfl, rfl⟩
  · have e1 : l.getD i 0 = 0 := by rw [List.getD_eq_getElem?_getD, List.getElem?_eq_none (by omega)]; rfl
    rw [e1]
    generalize l.length = n at *
    have hl : (n : Int) ≤ (i : Int) := by omega
    go_enter Try.func89, Try.ntmps89
    go_wp2_with fail
    go_ret
    exact ⟨rfl, rfl⟩
end Go.Proofs.Ytfifcpgjcgoinaa

set_option exponentiation.threshold 10000
namespace Go.Proofs.Ytfifcpgjcgoinaa
open Go.RowKit GW NL
theorem rcmp_same (A1 A2 : Option Addr) (c1 c2 : Nat) (l1 l2 : List Nat) (w : World) (h1 : SlW w A1 c1 l1) (h2 : SlW w A2 c2 l2) (hl : l1.length = l2.length) (hl9 : l1.length ≤ 1000000000) :
    Calls Try.prog 73 #[.slice A1 l1.length c1, .slice A2 l2.length c2] w fun e w' => e = .returned (.int .i64 (ord (val l1) (val l2))) ∧ Below w.heap.size w w' := by
  obtain ⟨n, hn⟩ : ∃ n, l1.length = n := ⟨_, rfl⟩
  have hn2 : l2.length = n := by omega
  have o1 := h1.ok
  have o2 := h2.ok
  rw [hn2, hn]
  have H1 := Lib.hid hn
  have H2 := Lib.hid hn2
  have hn9 : n ≤ 1000000000 := by omega
  clear hn hn2 hl hl9
  go_enter Try.func73, Try.ntmps73
  go_wp2_with fail
  go_loopg [5] n (fun gk s5 wr => gk ≤ n ∧ s5 = .int .i64 ((gk : Int) - 1) ∧ Hid (∀ j, gk ≤ j → j < n → l1.getD j 0 = l2.getD j 0) ∧ Below w.heap.size w wr)
  case atStart => exact ⟨Nat.le_refl _, rfl, fun j h1 h2 => by omega, Below.refl _ _⟩
  case round =>
    obtain ⟨hg, rfl, HE, hb⟩ := hrel
    cases gk with
    | zero =>
      have he : l1 = l2 := eq_of_all (by rw [H1.out, H2.out]) fun j hj => HE.out j (Nat.zero_le _) (by rw [← H1.out]; exact hj)
      have hord : ord (val l1) (val l2) = 0 := by rw [he]; exact ord_self _
      have HO := Lib.hid hord
      clear he hord
      go_wp2_with fail
      go_ret
      exact ⟨ret_int HO.out.symm, hb⟩
    | succ k =>
      rw [show ((k + 1 : Nat) : Int) - 1 = (k : Int) by omega]
      have k1 : (k : Int) < (n : Int) := by omega
      obtain ⟨b1, p1, rfl, hc1⟩ := limW_cell h1.lim (by rw [H1.out]; omega)
      obtain ⟨b2, p2, rfl, hc2⟩ := limW_cell h2.lim (by rw [H2.out]; omega)
      have e1 := below_old hb (hc1 k (by rw [H1.out]; omega))
      have e2 := below_old hb (hc2 k (by rw [H2.out]; omega))
      clear hc1 hc2
      have hat := fun hne => Lib.hid (ord_at o1 o2 (by rw [H1.out, H2.out]) (k := k) (by rw [H1.out]; omega) (fun j hj hj2 => HE.out j (by omega) (by rw [← H1.out]; exact hj2)) hne)
      have HAT := Lib.hid hat
      clear hat
      obtain ⟨x, hx⟩ : ∃ x, l1.getD k 0 = x := ⟨_, rfl⟩
      obtain ⟨y, hy⟩ : ∃ y, l2.getD k 0 = y := ⟨_, rfl⟩
      rw [hx] at e1 HAT
      rw [hy] at e2 HAT
      have HX := Lib.hid hx
      have HY := Lib.hid hy
      clear hx hy
      rcases Nat.lt_trichotomy x y with h | h | h
      · have h' : (x : Int) < (y : Int) := by omega
        have hord : ord (val l1) (val l2) = -1 := by rw [(HAT.out (by omega)).out]; unfold ord; rw [if_pos h]
        have HO := Lib.hid hord
        clear hord HAT h
        go_wp2_with fail
        go_quiet (fail)
        go_wp2_with fail
        go_ret
        exact ⟨ret_int HO.out.symm, ⟨hb.os, hb.tape, hb.output, hb.size, hb.block⟩⟩
      · subst h
        have h' : ¬ ((x : Int) < (x : Int)) := by omega
        clear HAT
        go_wp2_with fail
        go_quiet (fail)
        go_wp2_with fail
        go_quiet (fail)
        go_wp2_with fail
        go_roundg k
        case measure => omega
        case rel => exact ⟨by omega, rfl, fun j hj1 hj2 => by
          rcases Nat.lt_or_ge k j with h | h
          · exact HE.out j (by omega) hj2
          · obtain rfl : j = k := by omega
            rw [HX.out, HY.out], ⟨hb.os, hb.tape, hb.output, hb.size, hb.block⟩⟩
      · have h' : ¬ ((x : Int) < (y : Int)) := by omega
        have h'' : (y : Int) < (x : Int) := by omega
        have hord : ord (val l1) (val l2) = 1 := by rw [(HAT.out (by omega)).out]; unfold ord; rw [if_neg (by omega), if_pos h]
        have HO := Lib.hid hord
        clear hord HAT h
        go_wp2_with fail
        go_quiet (fail)
        go_wp2_with fail
        go_quiet (fail)
        go_wp2_with fail
        go_ret
        exact ⟨ret_int HO.out.symm, ⟨hb.os, hb.tape, hb.output, hb.size, hb.block⟩⟩
theorem rcmp_any (A1 A2 : Option Addr) (c1 c2 a b : Nat) (w : World) (h1 : SlW w A1 c1 (limbs a)) (h2 : SlW w A2 c2 (limbs b)) (hl9 : (limbs a).length ≤ 1000000000) :
    Calls Try.prog 73 #[.slice A1 (limbs a).length c1, .slice A2 (limbs b).length c2] w fun e w' => e = .returned (.int .i64 (ord a b)) ∧ Below w.heap.size w w' := by
  rcases Nat.lt_trichotomy (limbs a).length (limbs b).length with h | h | h
  · have hord : ord a b = -1 := by unfold ord; rw [if_pos (limbs_lt_of_len h)]
    rw [hord]
    have h' : ((limbs a).length : Int) < ((limbs b).length : Int) := by omega
    clear hord h
    generalize (limbs a).length = n1 at *
    generalize (limbs b).length = n2 at *
    go_enter Try.func73, Try.ntmps73
    go_wp2_with fail
    go_ret
    exact ⟨rfl, Below.refl _ _⟩
  · have := rcmp_same A1 A2 c1 c2 (limbs a) (limbs b) w h1 h2 h hl9
    rwa [val_limbs, val_limbs] at this
  · have hord : ord a b = 1 := by have := limbs_lt_of_len h; unfold ord; rw [if_neg (by omega), if_pos this]
    rw [hord]
    have h' : ¬ ((limbs a).length : Int) < ((limbs b).length : Int) := by omega
    have h'' : ((limbs b).length : Int) < ((limbs a).length : Int) := by omega
    clear hord h
    generalize (limbs a).length = n1 at *
    generalize (limbs b).length = n2 at *
    go_enter Try.func73, Try.ntmps73
    go_wp2_with fail
    go_ret
    exact ⟨rfl, Below.refl _ _⟩
theorem nb_half {x : Nat} (h : x ≠ 0) : nb x = nb (x / 2) + 1 := by
  apply nb_uniq
  · have := nb_lt (x / 2)
    rw [Nat.pow_succ]; omega
  · right
    rw [Nat.add_sub_cancel]
    by_cases h2 : x / 2 = 0
    · rw [h2, nb_zero]; omega
    · have h3 := nb_ge h2
      have h4 := nb_pos h2
      have : 2 ^ nb (x / 2) = 2 * 2 ^ (nb (x / 2) - 1) := by rw [← Nat.pow_succ']; congr 1; omega
      omega
theorem rbits_any (A : Option Addr) (c v : Nat) (w : World) (h : SlW w A c (limbs v)) (hl : (limbs v).length ≤ 1000000000) :
    Calls Try.prog 70 #[.slice A (limbs v).length c] w fun e w' => e = .returned (.int .i64 (nb v : Nat)) ∧ Below w.heap.size w w' := by
  by_cases h0 : v = 0
  · subst h0
    rw [limbs_zero, nb_zero]
    go_enter Try.func70, Try.ntmps70
    go_wp2_with fail
    go_ret
    exact ⟨rfl, Below.refl _ _⟩
  · obtain ⟨m, hm⟩ : ∃ m, (limbs v).length = m + 1 := ⟨(limbs v).length - 1, by have := len_ne h0; omega⟩
    obtain ⟨b, o, rfl, hcell⟩ := limW_cell h.lim (by omega)
    have e1 := hcell m (by omega)
    have hx := (ok_limbs v).getD m
    have hnb := nb_top hm
    have hxn : nb ((limbs v).getD m 0) ≤ 32 := (nb_le _ _).2 hx
    rw [hnb]
    clear hcell h h0
    generalize (limbs v).getD m 0 = x at *
    have hm9 : m ≤ 1000000000 := by omega
    rw [hm]
    have hw1 : IntKind.i64.wrap (32 * (m : Int)) = 32 * (m : Int) := by rw [IntKind.wrap_i64]; omega
    clear hnb hm hl
    obtain ⟨M, hM⟩ : ∃ M, 32 * m = M := ⟨_, rfl⟩
    have hMi : 32 * (m : Int) = (M : Int) := by omega
    have hM9 : M ≤ 32000000000 := by omega
    rw [hM]
    clear hM
    go_enter Try.func70, Try.ntmps70
    go_wp2_with fail
    go_loopg [3, 4] x (fun gk s3 s4 wr => ∃ k : Nat, Hid (k + nb gk = M + nb x) ∧ k ≤ 33000000000 ∧ s3 = .int .i64 (k : Int) ∧ s4 = .int .u32 (gk : Int) ∧ gk < 4294967296 ∧ Below w.heap.size w wr)
    case atStart => exact ⟨M, rfl, by omega, rfl, rfl, hx, Below.refl _ _⟩
    case round =>
      obtain ⟨k, HK, hk9, rfl, rfl, hg, hb⟩ := hrel
      clear e1
      by_cases h0 : gk = 0
      · subst h0
        have hK := HK.out
        rw [nb_zero, Nat.add_zero] at hK
        have HK3 := Lib.hid hK
        clear hK HK
        go_wp2_with fail
        go_ret
        exact ⟨ret_int (by have := HK3.out; omega), hb⟩
      · have hgi : (0 : Int) < (gk : Int) := by omega
        obtain ⟨y, hy⟩ : ∃ y, gk / 2 = y := ⟨_, rfl⟩
        have hyi : Int.tdiv (gk : Int) 2 = (y : Int) := by rw [Int.tdiv_eq_ediv_of_nonneg (by omega)]; omega
        have hyj : (gk : Int) / 2 = (y : Int) := by omega
        have hlt : y < gk := by omega
        have HK2 : Hid (k + 1 + nb y = M + nb x) := Lib.hid (by have := HK.out; rw [nb_half h0, hy] at this; omega)
        have hk8 : k + 1 ≤ 33000000000 := by
          have := HK2.out; omega
        clear hy HK
        go_wp2_with fail
        go_roundg y
        case measure => exact hlt
        case rel => exact ⟨k + 1, HK2, hk8, by go_num, rfl, by omega, hb⟩
end Go.Proofs.Ytfifcpgjcgoinaa

set_option exponentiation.threshold 10000
namespace Go.Proofs.Ytfifcpgjcgoinaa
open Go.RowKit GW NL
set_option maxHeartbeats 2000000 in
theorem radd_any (A1 A2 : Option Addr) (c1 c2 a b : Nat) (w : World) (h1 : SlW w A1 c1 (limbs a)) (h2 : SlW w A2 c2 (limbs b)) (hl1 : (limbs a).length ≤ 1000000000) (hl2 : (limbs b).length ≤ 1000000000) :
    Calls Try.prog 71 #[.slice A1 (limbs a).length c1, .slice A2 (limbs b).length c2] w (RNat (a + b) w) := by
  refine calls_b fun g => ?_
  obtain ⟨n1, hn1⟩ : ∃ n, (limbs a).length = n := ⟨_, rfl⟩
  obtain ⟨n2, hn2⟩ : ∃ n, (limbs b).length = n := ⟨_, rfl⟩
  obtain ⟨M, hM⟩ : ∃ M, max n1 n2 = M := ⟨_, rfl⟩
  have HS := Lib.hid (AddI.start (limbs a) (limbs b) M)
  have CL1 := Lib.hid (fun k (hk : k ≤ 1000000001) w h => rlimb_any A1 c1 (limbs a) k w h (by omega))
  have CL2 := Lib.hid (fun k (hk : k ≤ 1000000001) w h => rlimb_any A2 c2 (limbs b) k w h (by omega))
  rw [hn1] at CL1 hl1 ⊢
  rw [hn2] at CL2 hl2 ⊢
  have HN1 := Lib.hid hn1
  have HN2 := Lib.hid hn2
  have HM : Hid (n1 ≤ M ∧ n2 ≤ M ∧ (M = n1 ∨ M = n2) ∧ M ≤ 1000000000) := Lib.hid (by omega)
  have o1 := ok_limbs a
  have o2 := ok_limbs b
  obtain ⟨i0, hi, hzz0, hzz1, hzz2⟩ := info_parts infoU32
  clear hn1 hn2 hM
  go_enter Try.func71, Try.ntmps71
  go_wp2_with (with_reducible refine G.any_mark _ ?_; (try generalize Array.size (World.heap (G.w _)) = bk); (try dsimp only [List.set_cons_zero, List.set_cons_succ]); (try clear g); intro g)
  go_loopg [5, 6, 7] (M + 1) (fun gk s5 s6 s7 wr => ∃ (k c : Nat) (pre : List Nat), k + gk = M + 1 ∧ s6 = .int .u64 (c : Int) ∧ s7 = .int .i64 (k : Int) ∧ Hid (AddI (limbs a) (limbs b) M k c pre) ∧ ((pre = [] ∧ s5 = .slice none 0 0 ∧ ∃ g : G w [] [] [heapOf w], wr = g.w) ∨ (∃ b cap cs, s5 = .slice (some ⟨b, 0, none⟩) k cap ∧ Row 30 1 k (u32s pre) cap cs ∧ w.heap.size ≤ b ∧ ∃ g : G w [] [(b, 30, cs)] [heapOf w], wr = g.w)))
  case atStart => exact ⟨0, 0, [], by omega, rfl, rfl, HS, .inl ⟨rfl, rfl, g, rfl⟩⟩
  case round =>
    clear g HS
    obtain ⟨k, c, pre, hkg, rfl, rfl, HA, hst⟩ := hrel
    have hM := HM.out
    have hc1 := HA.out.lt
    by_cases hgo : k < n1 ∨ k < n2 ∨ 0 < c
    · have hkM : k ≤ M := by
        rcases Nat.lt_or_ge k (M + 1) with h | h
        · omega
        · exfalso
          obtain rfl : k = M + 1 := by omega
          have := HA.out.done o1 o2 (by rw [HN1.out]; omega) (by rw [HN2.out]; omega)
          omega
      have HA2 := Lib.hid (HA.out.next o1 o2 (by rw [HN1.out]; omega) (by rw [HN2.out]; omega) (by rw [HN1.out, HN2.out]; omega) hkM (by omega))
      have CLa := Lib.hid (CL1.out k (by omega))
      have CLb := Lib.hid (CL2.out k (by omega))
      have hx := o1.getD k
      have hy := o2.getD k
      have hpl := HA.out.len
      generalize (limbs a).getD k 0 = x at *
      generalize (limbs b).getD k 0 = y at *
      obtain ⟨t, ht⟩ : ∃ t, c + x + y = t := ⟨_, rfl⟩
      have ht9 : t < 18446744073709551616 := by omega
      obtain ⟨cx, hcx⟩ : ∃ cx, c + x = cx := ⟨_, rfl⟩
      have f1 : (c : Int) + (x : Int) = (cx : Int) := by omega
      have f2 : (cx : Int) + (y : Int) = (t : Int) := by omega
      have f3 : IntKind.u64.wrap (cx : Int) = (cx : Int) := by rw [IntKind.wrap_u64]; omega
      have f4 : IntKind.u64.wrap (t : Int) = (t : Int) := by rw [IntKind.wrap_u64]; omega
      obtain ⟨lo, hlo⟩ : ∃ lo, t % 4294967296 = lo := ⟨_, rfl⟩
      obtain ⟨hi', hhi⟩ : ∃ hi', t / 4294967296 = hi' := ⟨_, rfl⟩
      have f5 : IntKind.u32.wrap (t : Int) = (lo : Int) := by rw [IntKind.wrap_u32]; omega
      have f6 : (t : Int) / 4294967296 = (hi' : Int) := by omega
      rw [ht, hlo, hhi] at HA2
      have H1 : ∀ u ∈ [Value.int .u32 (lo : Int)], u.oneCell' = true := by intro u hu; rw [List.mem_singleton.1 hu]; rfl
      have hk9 : k ≤ 1000000000 := by omega
      have H2 : k + 1 ≤ maxLen := by show k + 1 ≤ 9223372036854775807; omega
      have H3 : (k + 1) * 4 ≤ 140737488355328 := by omega
      have HAP : Hid (u32s (pre ++ [lo]) = u32s pre ++ [.int .u32 (lo : Int)]) := Lib.hid (by rw [u32s_append]; rfl)
      have hgk : 0 < gk := by omega
      have hkg2 : k + 1 + (gk - 1) = M + 1 := by omega
      clear ht hcx hlo hhi hM hkM
      have hcase : (k < n1) ∨ (¬ k < n1 ∧ k < n2) ∨ (¬ k < n1 ∧ ¬ k < n2 ∧ 0 < c) := by omega
      clear hgo
      rcases hst with ⟨rfl, rfl, g, rfl⟩ | ⟨b', cap, cs, rfl, hrow, hb, g, rfl⟩
      · obtain rfl : k = 0 := by rw [← hpl]; rfl
        rcases hcase with h | ⟨h, h'⟩ | ⟨h, h', h''⟩
        all_goals
          go_wp2_with (with_reducible refine G.any_mark _ ?_; (try generalize Array.size (World.heap (G.w _)) = bk); (try dsimp only [List.set_cons_zero, List.set_cons_succ]); (try clear g); intro g)
          refine (CLa.out _ (G.sl g (by simp) h1)).mono ?_
          rintro e w1 ⟨rfl, rfl⟩
          go_wp2_with (with_reducible refine G.any_mark _ ?_; (try generalize Array.size (World.heap (G.w _)) = bk); (try dsimp only [List.set_cons_zero, List.set_cons_succ]); (try clear g); intro g)
          refine (CLb.out _ (G.sl g (by simp) h2)).mono ?_
          rintro e w1 ⟨rfl, rfl⟩
          go_wp2_with (first | (with_reducible refine G.any_mark _ ?_; (try generalize Array.size (World.heap (G.w _)) = bk); (try dsimp only [List.set_cons_zero, List.set_cons_succ]); (try clear g); intro g) | (at_builtin; refine wpList_append_lit0 rfl _ _ 24 rfl 30 i0 _ 1 4 Try.underlying24 hi hzz0 hzz1 hzz2 rfl (by decide) g rfl 1 rfl rfl H1 (by decide) (by decide) (by decide) ?_; clear g; intro b' cap cs g hb hrow))
          go_roundg (gk - 1)
          case measure => omega
          case rel => exact ⟨0 + 1, hi', [] ++ [lo], hkg2, rfl, by go_num, HA2, .inr ⟨b', cap, cs, rfl, by rw [HAP.out]; exact hrow, hb, g, rfl⟩⟩
      · rcases hcase with h | ⟨h, h'⟩ | ⟨h, h', h''⟩
        all_goals
          go_wp2_with (with_reducible refine G.any_mark _ ?_; (try generalize Array.size (World.heap (G.w _)) = bk); (try dsimp only [List.set_cons_zero, List.set_cons_succ]); (try clear g); intro g)
          refine (CLa.out _ (G.sl g (by simp) h1)).mono ?_
          rintro e w1 ⟨rfl, rfl⟩
          go_wp2_with (with_reducible refine G.any_mark _ ?_; (try generalize Array.size (World.heap (G.w _)) = bk); (try dsimp only [List.set_cons_zero, List.set_cons_succ]); (try clear g); intro g)
          refine (CLb.out _ (G.sl g (by simp) h2)).mono ?_
          rintro e w1 ⟨rfl, rfl⟩
          go_wp2_with (first | (with_reducible refine G.any_mark _ ?_; (try generalize Array.size (World.heap (G.w _)) = bk); (try dsimp only [List.set_cons_zero, List.set_cons_succ]); (try clear g); intro g) | (at_builtin; refine wpList_append_lit rfl _ _ 24 rfl 30 i0 _ 1 4 Try.underlying24 hi hzz0 hzz1 hzz2 rfl (by decide) g hrow hb rfl 1 rfl rfl H1 (by decide) H2 H3 ?_; clear hb hrow g; intro b' cap cs g hb hrow))
          go_roundg (gk - 1)
          case measure => omega
          case rel => exact ⟨k + 1, hi', pre ++ [lo], hkg2, rfl, by go_num, HA2, .inr ⟨b', cap, cs, rfl, by rw [HAP.out]; exact hrow, hb, g, rfl⟩⟩
    · obtain rfl : c = 0 := by omega
      have hp := HA.out.stop (by rw [HN1.out]; omega) (by rw [HN2.out]; omega) (by rw [HN1.out, HN2.out]; omega)
      have h3 : ¬ k < n1 := by omega
      have h4 : ¬ k < n2 := by omega
      have hpl := HA.out.len
      have hk9 : k ≤ 1000000001 := by omega
      subst hp
      have HPL := Lib.hid hpl
      clear hgo hpl
      rcases hst with ⟨hnil, rfl, g, rfl⟩ | ⟨b', cap, cs, rfl, hrow, hb, g, rfl⟩
      · have HNL := Lib.hid hnil
        clear hnil
        go_wp2_with (with_reducible refine G.any_mark _ ?_; (try generalize Array.size (World.heap (G.w _)) = bk); (try dsimp only [List.set_cons_zero, List.set_cons_succ]); (try clear g); intro g)
        go_ret
        exact ⟨none, 0, (fun _ => none), by rw [HNL.out]; rfl, by rw [HNL.out]; exact Frag.Sl.nil _ _, g.none⟩
      · go_wp2_with (with_reducible refine G.any_mark _ ?_; (try generalize Array.size (World.heap (G.w _)) = bk); (try dsimp only [List.set_cons_zero, List.set_cons_succ]); (try clear g); intro g)
        go_ret
        exact ⟨_, cap, _, ret_slice HPL.out.symm, sl_row hrow HPL.out (by omega) (ok_limbs _), g.give (List.mem_cons_self ..)⟩
set_option maxHeartbeats 2000000 in
theorem rsub_any (A1 A2 : Option Addr) (c1 c2 : Nat) (l1 l2 : List Nat) (w : World) (h1 : SlW w A1 c1 l1) (h2 : SlW w A2 c2 l2) (hl1 : l1.length ≤ 1000000000) (hl2 : l2.length ≤ l1.length) (hle : val l2 ≤ val l1) :
    Calls Try.prog 75 #[.slice A1 l1.length c1, .slice A2 l2.length c2] w (RNat (val l1 - val l2) w) := by
  refine calls_b fun g => ?_
  obtain ⟨n1, hn1⟩ : ∃ n, l1.length = n := ⟨_, rfl⟩
  obtain ⟨n2, hn2⟩ : ∃ n, l2.length = n := ⟨_, rfl⟩
  have CL1 := Lib.hid (fun k (hk : k ≤ 1000000001) w h => rlimb_any A1 c1 l1 k w h (by omega))
  have CL2 := Lib.hid (fun k (hk : k ≤ 1000000001) w h => rlimb_any A2 c2 l2 k w h (by omega))
  rw [hn1] at CL1 hl1 hl2 ⊢
  rw [hn2] at CL2 hl2 ⊢
  have HN1 := Lib.hid hn1
  have HN2 := Lib.hid hn2
  have HLE := Lib.hid hle
  have o1 := h1.ok
  have o2 := h2.ok
  obtain ⟨i0, hi, hzz0, hzz1, hzz2⟩ := info_parts infoU32
  clear hn1 hn2 hle
  go_enter Try.func75, Try.ntmps75
  go_wp2_with (with_reducible refine G.any_mark _ ?_; (try generalize Array.size (World.heap (G.w _)) = bk); (try dsimp only [List.set_cons_zero, List.set_cons_succ]); (try clear g); intro g)
  go_loopg [5, 6, 7] n1 (fun gk s5 s6 s7 wr => ∃ (k c : Nat) (pre : List Nat), k + gk = n1 ∧ s6 = .int .u64 (c : Int) ∧ s7 = .int .i64 (k : Int) ∧ c ≤ 1 ∧ Hid (pre.length = k ∧ Ok pre ∧ val pre + val (l2.take k) = val (l1.take k) + 4294967296 ^ k * c) ∧ ((pre = [] ∧ s5 = .slice none 0 0 ∧ ∃ g : G w [] [] [heapOf w], wr = g.w) ∨ (∃ b cap cs, s5 = .slice (some ⟨b, 0, none⟩) k cap ∧ Row 30 1 k (u32s pre) cap cs ∧ w.heap.size ≤ b ∧ ∃ g : G w [] [(b, 30, cs)] [heapOf w], wr = g.w)))
  case atStart => exact ⟨0, 0, [], by omega, rfl, rfl, by omega, ⟨rfl, Ok.nil, by simp [val]⟩, .inl ⟨rfl, rfl, g, rfl⟩⟩
  case round =>
    clear g
    obtain ⟨k, c, pre, hkg, rfl, rfl, hc1, HA, hst⟩ := hrel
    by_cases hgo : k < n1
    · have HA2 := Lib.hid (sub_step o1 o2 hc1 HA.out.1 HA.out.2.2)
      have CLa := Lib.hid (CL1.out k (by omega))
      have CLb := Lib.hid (CL2.out k (by omega))
      have hx := o1.getD k
      have hy := o2.getD k
      have hpl := HA.out.1
      have hpo := HA.out.2.1
      generalize l1.getD k 0 = x at *
      generalize l2.getD k 0 = y at *
      obtain ⟨d, hd⟩ : ∃ d : Nat, ((x : Int) - (y : Int)) % 18446744073709551616 = (d : Int) := ⟨(((x : Int) - (y : Int)) % 18446744073709551616).toNat, by omega⟩
      obtain ⟨t, ht⟩ : ∃ t : Nat, ((d : Int) - (c : Int)) % 18446744073709551616 = (t : Int) := ⟨(((d : Int) - (c : Int)) % 18446744073709551616).toNat, by omega⟩
      have f3 : IntKind.u64.wrap ((x : Int) - (y : Int)) = (d : Int) := by rw [IntKind.wrap_u64]; exact hd
      have f4 : IntKind.u64.wrap ((d : Int) - (c : Int)) = (t : Int) := by rw [IntKind.wrap_u64]; exact ht
      obtain ⟨lo, hlo⟩ : ∃ lo, (x + 4294967296 - y - c) % 4294967296 = lo := ⟨_, rfl⟩
      obtain ⟨c', hc'⟩ : ∃ c', brw x y c = c' := ⟨_, rfl⟩
      have hb : (x < y + c ∧ c' = 1) ∨ (y + c ≤ x ∧ c' = 0) := by unfold brw at hc'; split at hc' <;> omega
      have f5 : IntKind.u32.wrap (t : Int) = (lo : Int) := by rw [IntKind.wrap_u32]; omega
      have f6 : (t : Int) / 9223372036854775808 = (c' : Int) := by omega
      have hc1' : c' ≤ 1 := by omega
      have hlo9 : lo < 4294967296 := by omega
      rw [hlo, hc'] at HA2
      have HA3 : Hid ((pre ++ [lo]).length = k + 1 ∧ Ok (pre ++ [lo]) ∧ val (pre ++ [lo]) + val (l2.take (k + 1)) = val (l1.take (k + 1)) + 4294967296 ^ (k + 1) * c') := Lib.hid ⟨by rw [List.length_append, hpl]; rfl, hpo.append (Ok.cons hlo9 Ok.nil), HA2.out⟩
      have H1 : ∀ u ∈ [Value.int .u32 (lo : Int)], u.oneCell' = true := by intro u hu; rw [List.mem_singleton.1 hu]; rfl
      have hk9 : k ≤ 1000000000 := by omega
      have H2 : k + 1 ≤ maxLen := by show k + 1 ≤ 9223372036854775807; omega
      have H3 : (k + 1) * 4 ≤ 140737488355328 := by omega
      have HAP : Hid (u32s (pre ++ [lo]) = u32s pre ++ [.int .u32 (lo : Int)]) := Lib.hid (by rw [u32s_append]; rfl)
      have hgk : 0 < gk := by omega
      have hkg2 : k + 1 + (gk - 1) = n1 := by omega
      clear hd ht hlo hc' hb HA2
      rcases hst with ⟨rfl, rfl, g, rfl⟩ | ⟨b', cap, cs, rfl, hrow, hb, g, rfl⟩
      · obtain rfl : k = 0 := by rw [← hpl]; rfl
        go_wp2_with (with_reducible refine G.any_mark _ ?_; (try generalize Array.size (World.heap (G.w _)) = bk); (try dsimp only [List.set_cons_zero, List.set_cons_succ]); (try clear g); intro g)
        refine (CLa.out _ (G.sl g (by simp) h1)).mono ?_
        rintro e w1 ⟨rfl, rfl⟩
        go_wp2_with (with_reducible refine G.any_mark _ ?_; (try generalize Array.size (World.heap (G.w _)) = bk); (try dsimp only [List.set_cons_zero, List.set_cons_succ]); (try clear g); intro g)
        refine (CLb.out _ (G.sl g (by simp) h2)).mono ?_
        rintro e w1 ⟨rfl, rfl⟩
        go_wp2_with (first | (with_reducible refine G.any_mark _ ?_; (try generalize Array.size (World.heap (G.w _)) = bk); (try dsimp only [List.set_cons_zero, List.set_cons_succ]); (try clear g); intro g) | (at_builtin; refine wpList_append_lit0 rfl _ _ 24 rfl 30 i0 _ 1 4 Try.underlying24 hi hzz0 hzz1 hzz2 rfl (by decide) g rfl 1 rfl rfl H1 (by decide) (by decide) (by decide) ?_; clear g; intro b' cap cs g hb hrow))
        go_roundg (gk - 1)
        case measure => omega
        case rel => exact ⟨0 + 1, c', [] ++ [lo], hkg2, rfl, by go_num, hc1', HA3, .inr ⟨b', cap, cs, rfl, by rw [HAP.out]; exact hrow, hb, g, rfl⟩⟩
      · go_wp2_with (with_reducible refine G.any_mark _ ?_; (try generalize Array.size (World.heap (G.w _)) = bk); (try dsimp only [List.set_cons_zero, List.set_cons_succ]); (try clear g); intro g)
        refine (CLa.out _ (G.sl g (by simp) h1)).mono ?_
        rintro e w1 ⟨rfl, rfl⟩
        go_wp2_with (with_reducible refine G.any_mark _ ?_; (try generalize Array.size (World.heap (G.w _)) = bk); (try dsimp only [List.set_cons_zero, List.set_cons_succ]); (try clear g); intro g)
        refine (CLb.out _ (G.sl g (by simp) h2)).mono ?_
        rintro e w1 ⟨rfl, rfl⟩
        go_wp2_with (first | (with_reducible refine G.any_mark _ ?_; (try generalize Array.size (World.heap (G.w _)) = bk); (try dsimp only [List.set_cons_zero, List.set_cons_succ]); (try clear g); intro g) | (at_builtin; refine wpList_append_lit rfl _ _ 24 rfl 30 i0 _ 1 4 Try.underlying24 hi hzz0 hzz1 hzz2 rfl (by decide) g hrow hb rfl 1 rfl rfl H1 (by decide) H2 H3 ?_; clear hb hrow g; intro b' cap cs g hb hrow))
        go_roundg (gk - 1)
        case measure => omega
        case rel => exact ⟨k + 1, c', pre ++ [lo], hkg2, rfl, by go_num, hc1', HA3, .inr ⟨b', cap, cs, rfl, by rw [HAP.out]; exact hrow, hb, g, rfl⟩⟩
    · obtain rfl : k = n1 := by omega
      obtain ⟨hpl, hpo, heq⟩ := HA.out
      have hend := (sub_end hpo hpl (by rw [HN1.out]; exact Nat.le_refl _) (by rw [HN2.out]; exact hl2) HLE.out heq).1
      have HPL := Lib.hid hpl
      have HEND := Lib.hid hend
      have CT1 := Lib.hid (fun A cap w h => rtrim_any A cap pre w h)
      rw [hpl] at CT1
      clear hpl heq hend
      rcases hst with ⟨hnil, rfl, g, rfl⟩ | ⟨b', cap, cs, rfl, hrow, hb, g, rfl⟩
      · subst hnil
        have hk0 : k = 0 := by rw [← HPL.out]; rfl
        subst hk0
        have hsl : SlW g.w none 0 [] := Frag.Sl.nil _ _
        go_wp2_with (with_reducible refine G.any_mark _ ?_; (try generalize Array.size (World.heap (G.w _)) = bk); (try dsimp only [List.set_cons_zero, List.set_cons_succ]); (try clear g); intro g)
        refine (CT1.out _ _ _ hsl).mono ?_
        rintro e w1 ⟨rfl, hb⟩
        obtain ⟨g1, rfl⟩ := G.call_ex _ hb
        clear hb
        (try clear g)
        revert g1
        intro g
        go_wp2_with (with_reducible refine G.any_mark _ ?_; (try generalize Array.size (World.heap (G.w _)) = bk); (try dsimp only [List.set_cons_zero, List.set_cons_succ]); (try clear g); intro g)
        go_ret
        refine ⟨none, 0, (fun _ => none), ret_slice (by rw [HEND.out]), ?_, g.none⟩
        rw [← HEND.out, show val [] = 0 from rfl, limbs_zero]
        exact Frag.Sl.nil _ _
      · have hsl : SlW g.w (some ⟨b', 0, none⟩) cap pre := (sl_row hrow HPL.out (by omega) hpo).at (blkF_sub g.blk0)
        have hsr := Lib.hid (sl_trim (sl_row (b := b') hrow HPL.out (by omega) hpo))
        go_wp2_with (with_reducible refine G.any_mark _ ?_; (try generalize Array.size (World.heap (G.w _)) = bk); (try dsimp only [List.set_cons_zero, List.set_cons_succ]); (try clear g); intro g)
        refine (CT1.out _ _ _ hsl).mono ?_
        rintro e w1 ⟨rfl, hb⟩
        obtain ⟨g1, rfl⟩ := G.call_ex _ hb
        clear hb
        (try clear g)
        revert g1
        intro g
        clear hsl
        go_wp2_with (with_reducible refine G.any_mark _ ?_; (try generalize Array.size (World.heap (G.w _)) = bk); (try dsimp only [List.set_cons_zero, List.set_cons_succ]); (try clear g); intro g)
        go_ret
        refine ⟨_, cap, _, ret_slice (by rw [HEND.out]), ?_, g.give (List.mem_cons_self ..)⟩
        rw [← HEND.out]
        exact hsr.out
end Go.Proofs.Ytfifcpgjcgoinaa
