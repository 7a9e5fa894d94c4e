/- Contracts of functions of the program, out of walks. Their conditions stand ahead of each. -/
import Derived.Test.YtfifcpgjcgoinaaN31
import Derived.Test.YtfifcpgjcgoinaaGp
set_option linter.unusedVariables false
set_option linter.unusedSimpArgs false
set_option exponentiation.threshold 10000
namespace Go.Proofs.Ytfifcpgjcgoinaa
open Go.RowKit GW NL
/-- a number and a fault -/
def RNF (v : Nat) (er pl : Int) (w : World) (e : Ending) (w' : World) : Prop := ∃ A c F, e = .returned (.tuple #[.slice A (limbs v).length c, .agg #[.int .i64 er, .int .i64 pl]]) ∧ F.Sl A c (limbs v) ∧ New w w' F
theorem bl_first (s : ByteArray) (h : 0 < s.size) : (s[0]'h).toNat = (bl s).getD 0 0 := by
  have h' : 0 < s.data.toList.length := by simpa using h
  unfold bl
  rw [List.getD_eq_getElem?_getD, List.getElem?_map, List.getElem?_eq_getElem h']
  simp
  rfl
theorem len_digits {v k : Nat} (h : v < 10 ^ k) (hk : k ≤ 2500) : (limbs v).length ≤ 300 :=
  (limbs_len v 300).2 (Nat.lt_of_lt_of_le h (Nat.le_trans (Nat.pow_le_pow_right (by decide) hk) (Nat.le_of_ble_eq_true rfl)))
set_option maxRecDepth 20000 in
set_option maxHeartbeats 8000000 in
theorem Parse_digits (s : ByteArray) (w : World) (hn : s.size ≤ 2467) (hn0 : s.size ≠ 0) (hd : ∀ j, j < s.size → ¬ NoDig ((bl s).getD j 0)) (hz : ¬ (1 < s.size ∧ (bl s).getD 0 0 = 48)) :
    Calls Try.prog 23 #[.string s] w (fun e w' => (dv (bl s) s.size < 2 ^ 8192 → RNF (dv (bl s) s.size) 0 0 w e w') ∧ (¬ dv (bl s) s.size < 2 ^ 8192 → RNF 0 5 0 w e w')) := by
  refine calls_b fun g => ?_
  obtain ⟨capOf, cvW, fr, hcv⟩ := conv_ex s
  have hcv1 := fun w => (hcv w).1
  have HCV := Lib.hid (fun w => (hcv w).2)
  clear hcv
  obtain ⟨l, hl⟩ : ∃ l, bl s = l := ⟨_, rfl⟩
  have hll := bl_len s
  have hlt := bl_lt s
  rw [hl] at hll hlt hd hz
  rw [hl] at HCV ⊢
  obtain ⟨n, hsz⟩ : ∃ n, s.size = n := ⟨_, rfl⟩
  rw [hsz] at hn hn0 hd hz hll hcv1 ⊢
  have hszi : ((s.size : Nat) : Int) = (n : Int) := by omega
  have hsl : Builtin.len = Builtin.len := rfl
  have h1i : ¬ ((2467 : Int) < (n : Int)) := by omega
  have hdec : decide ((2467 : Int) < (n : Int)) = false := decide_eq_false h1i
  go_enter Try.func23, Try.ntmps23
  go_wp2_with (with_reducible refine G.any_mark _ ?_; (try generalize Array.size (World.heap (G.w _)) = bk); (try dsimp only [List.set_cons_zero, List.set_cons_succ]); (try clear g); intro g)
  obtain ⟨rc, rfl⟩ : ∃ rc : Nat, rc = bk := ⟨_, rfl⟩
  have hby := (HCV.out g.w).2
  obtain ⟨g1, hg1⟩ := g.new_ex (HCV.out g.w).1
  rw [hg1]
  clear hg1
  have CI := index_any g.w.heap.size n (capOf g.w) l g1.w hll (by omega) hlt (fun j hj => hby.cell g1 (by simp) (by omega))
  generalize capOf g.w = cc at *
  generalize fr g.w = F0 at *
  generalize g.w.heap.size = bb at *
  clear g
  revert g1
  intro g CI
  refine CI.mono ?_
  rintro e w1 ⟨rfl, ⟨i, hi, hb, _⟩ | ⟨_, rfl⟩⟩
  · exact absurd hb (hd i hi)
  clear CI hby
  have hn0i : ((n : Int) == 0) = false := by rw [beq_eq_false_iff_ne]; omega
  by_cases h1n : 1 < n
  · have h1ni : (1 : Int) < (n : Int) := by omega
    have hz' : l.getD 0 0 ≠ 48 := fun e => hz ⟨h1n, e⟩
    have hs0 : ∀ h : 0 < s.size, (((s[0]'h).toNat : Int) == 48) = false := fun h => by
      have := bl_first s h
      rw [hl] at this
      rw [beq_eq_false_iff_ne]
      omega
    clear hz hl
    go_wp2_with fail
    have hby := (HCV.out g.w).2
    obtain ⟨g1, hg1⟩ := g.new_ex (HCV.out g.w).1
    rw [hg1]
    clear hg1
    generalize capOf g.w = cc2 at *
    generalize fr g.w = F1 at *
    generalize g.w.heap.size = b2 at *
    clear g hcv1
    revert g1
    intro g
    obtain ⟨gl, hgl⟩ := g.lessI (I' := [F1, heapOf w]) (by simp)
    rw [hgl]
    clear hgl g
    obtain ⟨i0, hi, hzz0, hzz1, hzz2⟩ := info_parts infoU32
    go_loopg [40, 5] n (fun gk s40 s5 wr => ∃ k : Nat, k + gk = n ∧ s40 = .int .i64 (k : Int) ∧ Hid (dv l k < 10 ^ k) ∧ ((Hid (dv l k = 0) ∧ s5 = .slice none 0 0 ∧ ∃ g : G w [] [(rc, 40, [.int .i64 0, .int .i64 0])] [F1, heapOf w], wr = g.w) ∨ (∃ N b cap cs, Hid (dv l k = N ∧ N ≠ 0) ∧ s5 = .slice (some ⟨b, 0, none⟩) (limbs N).length cap ∧ Row 30 1 (limbs N).length (u32s (limbs N)) cap cs ∧ w.heap.size ≤ b ∧ ∃ g : G w [] [(b, 30, cs), (rc, 40, [.int .i64 0, .int .i64 0])] [F1, heapOf w], wr = g.w)))
    case atStart => exact ⟨0, by omega, rfl, Lib.hid (by rw [dv_zero]; decide), .inl ⟨dv_zero l, rfl, gl, rfl⟩⟩
    case round =>
      clear gl
      obtain ⟨ko, rfl⟩ : ∃ ko : Nat, ko = gk := ⟨_, rfl⟩
      obtain ⟨k, hkg, rfl, HLT, hcase⟩ := hrel
      by_cases hk : k < n
      · have hki : (k : Int) < (n : Int) := by omega
        have hxd := hd k hk
        obtain ⟨x, hx⟩ : ∃ x, l.getD k 0 = x := ⟨_, rfl⟩
        rw [hx] at hxd
        have hx1 : 48 ≤ x ∧ x ≤ 57 := by unfold NoDig at hxd; omega
        obtain ⟨d, hdd⟩ : ∃ d, x - 48 = d := ⟨_, rfl⟩
        have hd10 : d < 10 := by omega
        have hsub : IntKind.u8.wrap ((x : Int) - 48) = (d : Int) := by rw [IntKind.wrap_u8]; omega
        have hsub2 : (x : Int) - 48 = (d : Int) := by omega
        have hwd : IntKind.u32.wrap (d : Int) = (d : Int) := by rw [IntKind.wrap_u32]; omega
        have hwd8 : IntKind.u8.wrap (d : Int) = (d : Int) := by rw [IntKind.wrap_u8]; omega
        have HS : Hid (dv l (k + 1) = 10 * dv l k + d) := Lib.hid (by rw [dv_succ (by omega), hx, hdd])
        have HL2 : Hid (dv l (k + 1) < 10 ^ (k + 1)) := Lib.hid (by rw [HS.out, Nat.pow_succ]; have := HLT.out; omega)
        have HX := Lib.hid hx
        have hkn : k + 1 ≤ 2467 := by omega
        clear hxd hx1 hdd hd hx
        rcases hcase with ⟨HZ, rfl, g, rfl⟩ | ⟨N, b, cap, cs, HN, rfl, hrow, hb, g, rfl⟩
        · have e1 := hby.cell g (by simp) (j := k) (by omega)
          rw [HX.out] at e1
          go_wp2_with (with_reducible refine G.any_mark _ ?_; (try generalize Array.size (World.heap (G.w _)) = bk); (try dsimp only [List.set_cons_zero, List.set_cons_succ]); (try clear g); intro g)
          clear e1
          obtain ⟨kb, rfl⟩ : ∃ kb : Nat, kb = bk := ⟨_, rfl⟩
          go_loopg [51] 0 (fun gk s51 wr => s51 = .int .i64 0 ∧ ∃ g : G w [] [(kb, 74, [.int .u32 (d : Int)]), (rc, 40, [.int .i64 0, .int .i64 0])] [F1, heapOf w], wr = g.w)
          case atStart => exact ⟨rfl, g, rfl⟩
          case round =>
            clear g
            obtain ⟨rfl, g, rfl⟩ := hrel
            by_cases hd0 : d = 0
            · subst hd0
              have HZ2 : Hid (dv l (k + 1) = 0) := Lib.hid (by rw [HS.out, HZ.out])
              go_wp2_with (with_reducible refine G.any_mark _ ?_; (try generalize Array.size (World.heap (G.w _)) = bk); (try dsimp only [List.set_cons_zero, List.set_cons_succ]); (try clear g); intro g)
              obtain ⟨g2, hg2⟩ := g.less (M' := [(rc, 40, [.int .i64 0, .int .i64 0])]) (by simp)
              go_roundg (ko - 1)
              case measure => omega
              case rel => exact ⟨k + 1, by omega, by go_num, HL2, .inl ⟨HZ2, rfl, g2, hg2⟩⟩
            · have hdi : (0 : Int) < (d : Int) := by omega
              have HN2 : Hid (dv l (k + 1) = d ∧ d ≠ 0) := Lib.hid ⟨by rw [HS.out, HZ.out]; omega, hd0⟩
              have ed : limbs d = [d] := limbs_one hd0 (by omega)
              have HRW : Hid ((limbs d).length = 1 ∧ u32s (limbs d) = [.int .u32 (d : Int)]) := Lib.hid ⟨by rw [ed]; rfl, by rw [ed]; rfl⟩
              have H1 : ∀ u ∈ [Value.int .u32 (d : Int)], u.oneCell' = true := by intro u hu; rw [List.mem_singleton.1 hu]; rfl
              clear ed
              go_wp2_with (first | (with_reducible refine G.any_mark _ ?_; (try generalize Array.size (World.heap (G.w _)) = bk); (try dsimp only [List.set_cons_zero, List.set_cons_succ]); (try clear g); intro g) | (at_builtin; refine wpList_append_lit0 rfl _ _ 24 rfl 30 i0 _ 1 4 Try.underlying24 hi hzz0 hzz1 hzz2 rfl (by decide) g rfl 1 rfl rfl H1 (by decide) (by decide) (by decide) ?_; clear g; intro b cap cs g hb hrow))
              obtain ⟨g2, hg2⟩ := g.less (M' := [(b, 30, cs), (rc, 40, [.int .i64 0, .int .i64 0])]) (by simp)
              go_roundg (ko - 1)
              case measure => omega
              case rel => exact ⟨k + 1, by omega, by go_num, HL2, .inr ⟨d, b, cap, cs, HN2, by rw [HRW.out.1], by rw [HRW.out.1, HRW.out.2]; exact hrow, hb, g2, hg2⟩⟩
        · have e1 := hby.cell g (by simp) (j := k) (by omega)
          rw [HX.out] at e1
          have hm300 : (limbs N).length ≤ 300 := len_digits (k := k) (by rw [← HN.out.1]; exact HLT.out) (by omega)
          have hokN := ok_limbs N
          have TS : Hid (Ten (limbs N) d 0 d []) := Lib.hid (Ten.start (by omega))
          obtain ⟨m, hm⟩ : ∃ m, (limbs N).length = m := ⟨_, rfl⟩
          rw [hm] at hrow hm300 ⊢
          have HM := Lib.hid hm
          clear hm
          go_wp2_with (with_reducible refine G.any_mark _ ?_; (try generalize Array.size (World.heap (G.w _)) = bk); (try dsimp only [List.set_cons_zero, List.set_cons_succ]); (try clear g); intro g)
          clear e1
          obtain ⟨kb, rfl⟩ : ∃ kb : Nat, kb = bk := ⟨_, rfl⟩
          obtain ⟨g2, hg2⟩ := g.perm (List.Perm.swap _ _ _)
          rw [hg2]
          clear hg2 g
          revert g2
          intro g
          go_loopg [51] m (fun gk s51 wr => ∃ (j c : Nat) (pre : List Nat) (cs' : List Value), j + gk = m ∧ s51 = .int .i64 (j : Int) ∧ Hid (Ten (limbs N) d j c pre) ∧ Row 30 1 m (u32s (pre ++ (limbs N).drop j)) cap cs' ∧ ∃ g : G w [] [(b, 30, cs'), (kb, 74, [.int .u32 (c : Int)]), (rc, 40, [.int .i64 0, .int .i64 0])] [F1, heapOf w], wr = g.w)
          case atStart => exact ⟨0, d, [], cs, by omega, rfl, TS, hrow, g, rfl⟩
          case round =>
            clear g hrow TS
            obtain ⟨j, c, pre, cs', hjg, rfl, TJ, hrow, g, rfl⟩ := hrel
            by_cases hj : j < m
            · have hji : (j : Int) < (m : Int) := by omega
              have hle := hrow.le
              have hlenr : (pre ++ (limbs N).drop j).length = m := by rw [List.length_append, List.length_drop, TJ.out.len, HM.out]; omega
              have hcell := hrow.get hlenr hj
              rw [ten_get TJ.out.len] at hcell
              have hy := hokN.getD j
              have hc := TJ.out.lt
              have TJ2 := Lib.hid (TJ.out.step hokN)
              have CM := fun w => cmul_any kb c ((limbs N).getD j 0) 10 0 hy (by decide) (by decide) hc w
              have hlow : ((limbs N).getD j 0 * 10 + 0 + c) % 4294967296 < 4294967296 := Nat.mod_lt _ (by decide)
              have hset := ten_set (xs := limbs N) (x := ((limbs N).getD j 0 * 10 + 0 + c) % 4294967296) TJ.out.len (by rw [HM.out]; exact hj)
              generalize ((limbs N).getD j 0 * 10 + 0 + c) % 4294967296 = lo at *
              generalize ((limbs N).getD j 0 * 10 + 0 + c) / 4294967296 = hi' at *
              generalize (limbs N).getD j 0 = y at *
              rw [show ((0 : Nat) : Int) = 0 from rfl, show ((10 : Nat) : Int) = 10 from rfl] at CM
              replace CM := Lib.hid CM
              have hrow2 := hrow.set (x := lo) hj
              rw [hset] at hrow2
              have HROW := Lib.hid hrow2
              clear hset hrow hrow2 hlenr
              go_wp2_with (with_reducible refine G.any_mark _ ?_; (try generalize Array.size (World.heap (G.w _)) = bk); (try dsimp only [List.set_cons_zero, List.set_cons_succ]); (try clear g); intro g)
              refine (CM.out _ (G.blk1 _)).mono ?_
              rintro e w1 ⟨rfl, hch, hcb⟩
              obtain ⟨g1, rfl⟩ := G.mut1 g (cs' := [.int .u32 ((hi' : Nat) : Int)]) hch hcb
              clear hch hcb g
              revert g1
              intro g
              go_wp2_with (with_reducible refine G.any_mark _ ?_; (try generalize Array.size (World.heap (G.w _)) = bk); (try dsimp only [List.set_cons_zero, List.set_cons_succ]); (try clear g); intro g)
              go_roundg (gk - 1)
              case measure => omega
              case rel => exact ⟨j + 1, hi', pre ++ [lo], _, by omega, by go_num, TJ2, HROW.out, g, rfl⟩
            · obtain rfl : j = m := by omega
              have hji : ¬ ((j : Int) < (j : Int)) := by omega
              have TE := TJ.out
              rw [← HM.out] at TE
              rw [List.drop_of_length_le (by rw [HM.out]; exact Nat.le_refl _), List.append_nil] at hrow
              by_cases hc0 : c = 0
              · subst hc0
                have hpre := TE.same
                have HN2 : Hid (dv l (k + 1) = 10 * N + d ∧ 10 * N + d ≠ 0) := Lib.hid ⟨by rw [HS.out, HN.out.1], by have := HN.out.2; omega⟩
                have HLN : Hid ((limbs (10 * N + d)).length = j) := Lib.hid (by rw [← hpre, TE.len, HM.out])
                have HROW : Hid (Row 30 1 j (u32s (limbs (10 * N + d))) cap cs') := Lib.hid (by rw [← hpre]; exact hrow)
                clear hpre hrow TE TJ
                go_wp2_with (with_reducible refine G.any_mark _ ?_; (try generalize Array.size (World.heap (G.w _)) = bk); (try dsimp only [List.set_cons_zero, List.set_cons_succ]); (try clear g); intro g)
                obtain ⟨g2, hg2⟩ := g.less (M' := [(b, 30, cs'), (rc, 40, [.int .i64 0, .int .i64 0])]) (by simp)
                go_roundg (ko - 1)
                case measure => omega
                case rel => exact ⟨k + 1, by omega, by go_num, HL2, .inr ⟨10 * N + d, b, cap, cs', HN2, by rw [HLN.out], by rw [HLN.out]; exact HROW.out, hb, g2, hg2⟩⟩
              · have hci : (0 : Int) < (c : Int) := by omega
                have hpre := TE.more hc0
                have HN2 : Hid (dv l (k + 1) = 10 * N + d ∧ 10 * N + d ≠ 0) := Lib.hid ⟨by rw [HS.out, HN.out.1], by have := HN.out.2; omega⟩
                have HLN : Hid ((limbs (10 * N + d)).length = j + 1) := Lib.hid (by rw [← hpre, List.length_append, TE.len, HM.out]; rfl)
                have HAP : Hid (u32s (limbs (10 * N + d)) = u32s pre ++ [.int .u32 (c : Int)]) := Lib.hid (by rw [← hpre, u32s_append]; rfl)
                have H1 : ∀ u ∈ [Value.int .u32 (c : Int)], u.oneCell' = true := by intro u hu; rw [List.mem_singleton.1 hu]; rfl
                have H2 : j + 1 ≤ maxLen := by show j + 1 ≤ 9223372036854775807; omega
                have H3 : (j + 1) * 4 ≤ 140737488355328 := by omega
                clear hpre TE TJ
                go_wp2_with (first | (with_reducible refine G.any_mark _ ?_; (try generalize Array.size (World.heap (G.w _)) = bk); (try dsimp only [List.set_cons_zero, List.set_cons_succ]); (try clear g); intro g) | (at_builtin; refine wpList_append_lit rfl _ _ 24 rfl 30 i0 _ 1 4 Try.underlying24 hi hzz0 hzz1 hzz2 rfl (by decide) g hrow hb rfl 1 rfl rfl H1 (by decide) H2 H3 ?_; clear hb hrow g; intro b cap cs g hb hrow))
                obtain ⟨g2, hg2⟩ := g.less (M' := [(b, 30, cs), (rc, 40, [.int .i64 0, .int .i64 0])]) (by simp)
                go_roundg (ko - 1)
                case measure => omega
                case rel => exact ⟨k + 1, by omega, by go_num, HL2, .inr ⟨10 * N + d, b, cap, cs, HN2, by rw [HLN.out], by rw [HLN.out, HAP.out]; exact hrow, hb, g2, hg2⟩⟩
      · obtain rfl : k = n := by omega
        have hki : ¬ ((k : Int) < (k : Int)) := by omega
        rcases hcase with ⟨HZ, rfl, g, rfl⟩ | ⟨N, b, cap, cs, HN, rfl, hrow, hb, g, rfl⟩
        · have CF := fits_yes none 0 0
          rw [limbs_zero, List.length_nil] at CF
          replace CF := Lib.hid CF
          have HB0 : Hid (0 < 2 ^ 8192) := Lib.hid (Nat.two_pow_pos _)
          have hsn : SlW g.w none 0 [] := Frag.Sl.nil _ _
          go_wp2_with (with_reducible refine G.any_mark _ ?_; (try generalize Array.size (World.heap (G.w _)) = bk); (try dsimp only [List.set_cons_zero, List.set_cons_succ]); (try clear g); intro g)
          refine (CF.out _ hsn HB0.out).mono ?_
          rintro e w1 ⟨rfl, hb⟩
          obtain ⟨g1, rfl⟩ := G.call_ex _ hb
          clear hb
          (try clear g)
          revert g1
          intro g
          clear hsn
          go_wp2_with (with_reducible refine G.any_mark _ ?_; (try generalize Array.size (World.heap (G.w _)) = bk); (try dsimp only [List.set_cons_zero, List.set_cons_succ]); (try clear g); intro g)
          ((try simp only [G.drew_eq, G.drewN_eq]); (refine G.any_mark _ ?_; (try generalize Array.size (World.heap (G.w _)) = bk); (try dsimp only [List.set_cons_zero, List.set_cons_succ]); (try clear g); intro g))
          refine bodyPost_ret (v := .tuple #[.slice none 0 0, .agg #[.int .i64 0, .int .i64 0]]) (by simp [results, Try.f23, go_sem]) rfl ⟨fun _ => ?_, fun h => absurd (by rw [HZ.out]; exact HB0.out) h⟩
          rw [HZ.out]
          exact ⟨none, 0, (fun _ => none), by rw [limbs_zero]; rfl, by rw [limbs_zero]; exact Frag.Sl.nil _ _, g.none⟩
        · have hsl : SlW g.w (some ⟨b, 0, none⟩) cap (limbs N) := (sl_row hrow rfl (by have h300 : (limbs N).length ≤ 300 := len_digits (v := N) (k := k) (by rw [← HN.out.1]; exact HLT.out) (by omega); omega) (ok_limbs N)).at (blkF_sub g.blk0)
          have HM0 : Hid ((limbs N).length ≤ 140737488355328) := Lib.hid (by have h300 : (limbs N).length ≤ 300 := len_digits (v := N) (k := k) (by rw [← HN.out.1]; exact HLT.out) (by omega); omega)
          by_cases hN8 : N < 2 ^ 8192
          · have CF := Lib.hid (fun w h => fits_yes (some ⟨b, 0, none⟩) cap N w h hN8)
            have H8 := Lib.hid hN8
            clear hN8
            go_wp2_with (with_reducible refine G.any_mark _ ?_; (try generalize Array.size (World.heap (G.w _)) = bk); (try dsimp only [List.set_cons_zero, List.set_cons_succ]); (try clear g); intro g)
            refine (CF.out _ hsl).mono ?_
            rintro e w1 ⟨rfl, hb⟩
            obtain ⟨g1, rfl⟩ := G.call_ex _ hb
            clear hb
            (try clear g)
            revert g1
            intro g
            clear hsl
            go_wp2_with (with_reducible refine G.any_mark _ ?_; (try generalize Array.size (World.heap (G.w _)) = bk); (try dsimp only [List.set_cons_zero, List.set_cons_succ]); (try clear g); intro g)
            ((try simp only [G.drew_eq, G.drewN_eq]); (refine G.any_mark _ ?_; (try generalize Array.size (World.heap (G.w _)) = bk); (try dsimp only [List.set_cons_zero, List.set_cons_succ]); (try clear g); intro g))
            have hlen := HM0.out
            refine bodyPost_ret (v := .tuple #[.slice (some ⟨b, 0, none⟩) (limbs N).length cap, .agg #[.int .i64 0, .int .i64 0]]) (by simp [results, Try.f23, go_sem]) rfl ⟨fun _ => ?_, fun h => absurd (by rw [HN.out.1]; exact H8.out) h⟩
            rw [HN.out.1]
            exact ⟨_, cap, _, rfl, sl_row hrow rfl hlen (ok_limbs N), g.give (List.mem_cons_self ..)⟩
          · have CF := Lib.hid (fun w h => fits_no (some ⟨b, 0, none⟩) cap N w h hN8)
            have H8 := Lib.hid hN8
            clear hN8
            go_wp2_with (with_reducible refine G.any_mark _ ?_; (try generalize Array.size (World.heap (G.w _)) = bk); (try dsimp only [List.set_cons_zero, List.set_cons_succ]); (try clear g); intro g)
            refine (CF.out _ hsl).mono ?_
            rintro e w1 ⟨rfl, hb⟩
            obtain ⟨g1, rfl⟩ := G.call_ex _ hb
            clear hb
            (try clear g)
            revert g1
            intro g
            clear hsl
            go_wp2_with (with_reducible refine G.any_mark _ ?_; (try generalize Array.size (World.heap (G.w _)) = bk); (try dsimp only [List.set_cons_zero, List.set_cons_succ]); (try clear g); intro g)
            ((try simp only [G.drew_eq, G.drewN_eq]); (refine G.any_mark _ ?_; (try generalize Array.size (World.heap (G.w _)) = bk); (try dsimp only [List.set_cons_zero, List.set_cons_succ]); (try clear g); intro g))
            refine bodyPost_ret (v := .tuple #[.slice none 0 0, .agg #[.int .i64 5, .int .i64 0]]) (by simp [results, Try.f23, go_sem]) rfl ⟨fun h => absurd (by rw [HN.out.1] at h; exact h) H8.out, fun _ => ?_⟩
            exact ⟨none, 0, (fun _ => none), by rw [limbs_zero]; rfl, by rw [limbs_zero]; exact Frag.Sl.nil _ _, g.none⟩

  · have h1ni : ¬ ((1 : Int) < (n : Int)) := by omega
    clear hz hl
    go_wp2_with fail
    have hby := (HCV.out g.w).2
    obtain ⟨g1, hg1⟩ := g.new_ex (HCV.out g.w).1
    rw [hg1]
    clear hg1
    generalize capOf g.w = cc2 at *
    generalize fr g.w = F1 at *
    generalize g.w.heap.size = b2 at *
    clear g hcv1
    revert g1
    intro g
    obtain ⟨gl, hgl⟩ := g.lessI (I' := [F1, heapOf w]) (by simp)
    rw [hgl]
    clear hgl g
    obtain ⟨i0, hi, hzz0, hzz1, hzz2⟩ := info_parts infoU32
    go_loopg [40, 5] n (fun gk s40 s5 wr => ∃ k : Nat, k + gk = n ∧ s40 = .int .i64 (k : Int) ∧ Hid (dv l k < 10 ^ k) ∧ ((Hid (dv l k = 0) ∧ s5 = .slice none 0 0 ∧ ∃ g : G w [] [(rc, 40, [.int .i64 0, .int .i64 0])] [F1, heapOf w], wr = g.w) ∨ (∃ N b cap cs, Hid (dv l k = N ∧ N ≠ 0) ∧ s5 = .slice (some ⟨b, 0, none⟩) (limbs N).length cap ∧ Row 30 1 (limbs N).length (u32s (limbs N)) cap cs ∧ w.heap.size ≤ b ∧ ∃ g : G w [] [(b, 30, cs), (rc, 40, [.int .i64 0, .int .i64 0])] [F1, heapOf w], wr = g.w)))
    case atStart => exact ⟨0, by omega, rfl, Lib.hid (by rw [dv_zero]; decide), .inl ⟨dv_zero l, rfl, gl, rfl⟩⟩
    case round =>
      clear gl
      obtain ⟨ko, rfl⟩ : ∃ ko : Nat, ko = gk := ⟨_, rfl⟩
      obtain ⟨k, hkg, rfl, HLT, hcase⟩ := hrel
      by_cases hk : k < n
      · have hki : (k : Int) < (n : Int) := by omega
        have hxd := hd k hk
        obtain ⟨x, hx⟩ : ∃ x, l.getD k 0 = x := ⟨_, rfl⟩
        rw [hx] at hxd
        have hx1 : 48 ≤ x ∧ x ≤ 57 := by unfold NoDig at hxd; omega
        obtain ⟨d, hdd⟩ : ∃ d, x - 48 = d := ⟨_, rfl⟩
        have hd10 : d < 10 := by omega
        have hsub : IntKind.u8.wrap ((x : Int) - 48) = (d : Int) := by rw [IntKind.wrap_u8]; omega
        have hsub2 : (x : Int) - 48 = (d : Int) := by omega
        have hwd : IntKind.u32.wrap (d : Int) = (d : Int) := by rw [IntKind.wrap_u32]; omega
        have hwd8 : IntKind.u8.wrap (d : Int) = (d : Int) := by rw [IntKind.wrap_u8]; omega
        have HS : Hid (dv l (k + 1) = 10 * dv l k + d) := Lib.hid (by rw [dv_succ (by omega), hx, hdd])
        have HL2 : Hid (dv l (k + 1) < 10 ^ (k + 1)) := Lib.hid (by rw [HS.out, Nat.pow_succ]; have := HLT.out; omega)
        have HX := Lib.hid hx
        have hkn : k + 1 ≤ 2467 := by omega
        clear hxd hx1 hdd hd hx
        rcases hcase with ⟨HZ, rfl, g, rfl⟩ | ⟨N, b, cap, cs, HN, rfl, hrow, hb, g, rfl⟩
        · have e1 := hby.cell g (by simp) (j := k) (by omega)
          rw [HX.out] at e1
          go_wp2_with (with_reducible refine G.any_mark _ ?_; (try generalize Array.size (World.heap (G.w _)) = bk); (try dsimp only [List.set_cons_zero, List.set_cons_succ]); (try clear g); intro g)
          clear e1
          obtain ⟨kb, rfl⟩ : ∃ kb : Nat, kb = bk := ⟨_, rfl⟩
          go_loopg [51] 0 (fun gk s51 wr => s51 = .int .i64 0 ∧ ∃ g : G w [] [(kb, 74, [.int .u32 (d : Int)]), (rc, 40, [.int .i64 0, .int .i64 0])] [F1, heapOf w], wr = g.w)
          case atStart => exact ⟨rfl, g, rfl⟩
          case round =>
            clear g
            obtain ⟨rfl, g, rfl⟩ := hrel
            by_cases hd0 : d = 0
            · subst hd0
              have HZ2 : Hid (dv l (k + 1) = 0) := Lib.hid (by rw [HS.out, HZ.out])
              go_wp2_with (with_reducible refine G.any_mark _ ?_; (try generalize Array.size (World.heap (G.w _)) = bk); (try dsimp only [List.set_cons_zero, List.set_cons_succ]); (try clear g); intro g)
              obtain ⟨g2, hg2⟩ := g.less (M' := [(rc, 40, [.int .i64 0, .int .i64 0])]) (by simp)
              go_roundg (ko - 1)
              case measure => omega
              case rel => exact ⟨k + 1, by omega, by go_num, HL2, .inl ⟨HZ2, rfl, g2, hg2⟩⟩
            · have hdi : (0 : Int) < (d : Int) := by omega
              have HN2 : Hid (dv l (k + 1) = d ∧ d ≠ 0) := Lib.hid ⟨by rw [HS.out, HZ.out]; omega, hd0⟩
              have ed : limbs d = [d] := limbs_one hd0 (by omega)
              have HRW : Hid ((limbs d).length = 1 ∧ u32s (limbs d) = [.int .u32 (d : Int)]) := Lib.hid ⟨by rw [ed]; rfl, by rw [ed]; rfl⟩
              have H1 : ∀ u ∈ [Value.int .u32 (d : Int)], u.oneCell' = true := by intro u hu; rw [List.mem_singleton.1 hu]; rfl
              clear ed
              go_wp2_with (first | (with_reducible refine G.any_mark _ ?_; (try generalize Array.size (World.heap (G.w _)) = bk); (try dsimp only [List.set_cons_zero, List.set_cons_succ]); (try clear g); intro g) | (at_builtin; refine wpList_append_lit0 rfl _ _ 24 rfl 30 i0 _ 1 4 Try.underlying24 hi hzz0 hzz1 hzz2 rfl (by decide) g rfl 1 rfl rfl H1 (by decide) (by decide) (by decide) ?_; clear g; intro b cap cs g hb hrow))
              obtain ⟨g2, hg2⟩ := g.less (M' := [(b, 30, cs), (rc, 40, [.int .i64 0, .int .i64 0])]) (by simp)
              go_roundg (ko - 1)
              case measure => omega
              case rel => exact ⟨k + 1, by omega, by go_num, HL2, .inr ⟨d, b, cap, cs, HN2, by rw [HRW.out.1], by rw [HRW.out.1, HRW.out.2]; exact hrow, hb, g2, hg2⟩⟩
        · have e1 := hby.cell g (by simp) (j := k) (by omega)
          rw [HX.out] at e1
          have hm300 : (limbs N).length ≤ 300 := len_digits (k := k) (by rw [← HN.out.1]; exact HLT.out) (by omega)
          have hokN := ok_limbs N
          have TS : Hid (Ten (limbs N) d 0 d []) := Lib.hid (Ten.start (by omega))
          obtain ⟨m, hm⟩ : ∃ m, (limbs N).length = m := ⟨_, rfl⟩
          rw [hm] at hrow hm300 ⊢
          have HM := Lib.hid hm
          clear hm
          go_wp2_with (with_reducible refine G.any_mark _ ?_; (try generalize Array.size (World.heap (G.w _)) = bk); (try dsimp only [List.set_cons_zero, List.set_cons_succ]); (try clear g); intro g)
          clear e1
          obtain ⟨kb, rfl⟩ : ∃ kb : Nat, kb = bk := ⟨_, rfl⟩
          obtain ⟨g2, hg2⟩ := g.perm (List.Perm.swap _ _ _)
          rw [hg2]
          clear hg2 g
          revert g2
          intro g
          go_loopg [51] m (fun gk s51 wr => ∃ (j c : Nat) (pre : List Nat) (cs' : List Value), j + gk = m ∧ s51 = .int .i64 (j : Int) ∧ Hid (Ten (limbs N) d j c pre) ∧ Row 30 1 m (u32s (pre ++ (limbs N).drop j)) cap cs' ∧ ∃ g : G w [] [(b, 30, cs'), (kb, 74, [.int .u32 (c : Int)]), (rc, 40, [.int .i64 0, .int .i64 0])] [F1, heapOf w], wr = g.w)
          case atStart => exact ⟨0, d, [], cs, by omega, rfl, TS, hrow, g, rfl⟩
          case round =>
            clear g hrow TS
            obtain ⟨j, c, pre, cs', hjg, rfl, TJ, hrow, g, rfl⟩ := hrel
            by_cases hj : j < m
            · have hji : (j : Int) < (m : Int) := by omega
              have hle := hrow.le
              have hlenr : (pre ++ (limbs N).drop j).length = m := by rw [List.length_append, List.length_drop, TJ.out.len, HM.out]; omega
              have hcell := hrow.get hlenr hj
              rw [ten_get TJ.out.len] at hcell
              have hy := hokN.getD j
              have hc := TJ.out.lt
              have TJ2 := Lib.hid (TJ.out.step hokN)
              have CM := fun w => cmul_any kb c ((limbs N).getD j 0) 10 0 hy (by decide) (by decide) hc w
              have hlow : ((limbs N).getD j 0 * 10 + 0 + c) % 4294967296 < 4294967296 := Nat.mod_lt _ (by decide)
              have hset := ten_set (xs := limbs N) (x := ((limbs N).getD j 0 * 10 + 0 + c) % 4294967296) TJ.out.len (by rw [HM.out]; exact hj)
              generalize ((limbs N).getD j 0 * 10 + 0 + c) % 4294967296 = lo at *
              generalize ((limbs N).getD j 0 * 10 + 0 + c) / 4294967296 = hi' at *
              generalize (limbs N).getD j 0 = y at *
              rw [show ((0 : Nat) : Int) = 0 from rfl, show ((10 : Nat) : Int) = 10 from rfl] at CM
              replace CM := Lib.hid CM
              have hrow2 := hrow.set (x := lo) hj
              rw [hset] at hrow2
              have HROW := Lib.hid hrow2
              clear hset hrow hrow2 hlenr
              go_wp2_with (with_reducible refine G.any_mark _ ?_; (try generalize Array.size (World.heap (G.w _)) = bk); (try dsimp only [List.set_cons_zero, List.set_cons_succ]); (try clear g); intro g)
              refine (CM.out _ (G.blk1 _)).mono ?_
              rintro e w1 ⟨rfl, hch, hcb⟩
              obtain ⟨g1, rfl⟩ := G.mut1 g (cs' := [.int .u32 ((hi' : Nat) : Int)]) hch hcb
              clear hch hcb g
              revert g1
              intro g
              go_wp2_with (with_reducible refine G.any_mark _ ?_; (try generalize Array.size (World.heap (G.w _)) = bk); (try dsimp only [List.set_cons_zero, List.set_cons_succ]); (try clear g); intro g)
              go_roundg (gk - 1)
              case measure => omega
              case rel => exact ⟨j + 1, hi', pre ++ [lo], _, by omega, by go_num, TJ2, HROW.out, g, rfl⟩
            · obtain rfl : j = m := by omega
              have hji : ¬ ((j : Int) < (j : Int)) := by omega
              have TE := TJ.out
              rw [← HM.out] at TE
              rw [List.drop_of_length_le (by rw [HM.out]; exact Nat.le_refl _), List.append_nil] at hrow
              by_cases hc0 : c = 0
              · subst hc0
                have hpre := TE.same
                have HN2 : Hid (dv l (k + 1) = 10 * N + d ∧ 10 * N + d ≠ 0) := Lib.hid ⟨by rw [HS.out, HN.out.1], by have := HN.out.2; omega⟩
                have HLN : Hid ((limbs (10 * N + d)).length = j) := Lib.hid (by rw [← hpre, TE.len, HM.out])
                have HROW : Hid (Row 30 1 j (u32s (limbs (10 * N + d))) cap cs') := Lib.hid (by rw [← hpre]; exact hrow)
                clear hpre hrow TE TJ
                go_wp2_with (with_reducible refine G.any_mark _ ?_; (try generalize Array.size (World.heap (G.w _)) = bk); (try dsimp only [List.set_cons_zero, List.set_cons_succ]); (try clear g); intro g)
                obtain ⟨g2, hg2⟩ := g.less (M' := [(b, 30, cs'), (rc, 40, [.int .i64 0, .int .i64 0])]) (by simp)
                go_roundg (ko - 1)
                case measure => omega
                case rel => exact ⟨k + 1, by omega, by go_num, HL2, .inr ⟨10 * N + d, b, cap, cs', HN2, by rw [HLN.out], by rw [HLN.out]; exact HROW.out, hb, g2, hg2⟩⟩
              · have hci : (0 : Int) < (c : Int) := by omega
                have hpre := TE.more hc0
                have HN2 : Hid (dv l (k + 1) = 10 * N + d ∧ 10 * N + d ≠ 0) := Lib.hid ⟨by rw [HS.out, HN.out.1], by have := HN.out.2; omega⟩
                have HLN : Hid ((limbs (10 * N + d)).length = j + 1) := Lib.hid (by rw [← hpre, List.length_append, TE.len, HM.out]; rfl)
                have HAP : Hid (u32s (limbs (10 * N + d)) = u32s pre ++ [.int .u32 (c : Int)]) := Lib.hid (by rw [← hpre, u32s_append]; rfl)
                have H1 : ∀ u ∈ [Value.int .u32 (c : Int)], u.oneCell' = true := by intro u hu; rw [List.mem_singleton.1 hu]; rfl
                have H2 : j + 1 ≤ maxLen := by show j + 1 ≤ 9223372036854775807; omega
                have H3 : (j + 1) * 4 ≤ 140737488355328 := by omega
                clear hpre TE TJ
                go_wp2_with (first | (with_reducible refine G.any_mark _ ?_; (try generalize Array.size (World.heap (G.w _)) = bk); (try dsimp only [List.set_cons_zero, List.set_cons_succ]); (try clear g); intro g) | (at_builtin; refine wpList_append_lit rfl _ _ 24 rfl 30 i0 _ 1 4 Try.underlying24 hi hzz0 hzz1 hzz2 rfl (by decide) g hrow hb rfl 1 rfl rfl H1 (by decide) H2 H3 ?_; clear hb hrow g; intro b cap cs g hb hrow))
                obtain ⟨g2, hg2⟩ := g.less (M' := [(b, 30, cs), (rc, 40, [.int .i64 0, .int .i64 0])]) (by simp)
                go_roundg (ko - 1)
                case measure => omega
                case rel => exact ⟨k + 1, by omega, by go_num, HL2, .inr ⟨10 * N + d, b, cap, cs, HN2, by rw [HLN.out], by rw [HLN.out, HAP.out]; exact hrow, hb, g2, hg2⟩⟩
      · obtain rfl : k = n := by omega
        have hki : ¬ ((k : Int) < (k : Int)) := by omega
        rcases hcase with ⟨HZ, rfl, g, rfl⟩ | ⟨N, b, cap, cs, HN, rfl, hrow, hb, g, rfl⟩
        · have CF := fits_yes none 0 0
          rw [limbs_zero, List.length_nil] at CF
          replace CF := Lib.hid CF
          have HB0 : Hid (0 < 2 ^ 8192) := Lib.hid (Nat.two_pow_pos _)
          have hsn : SlW g.w none 0 [] := Frag.Sl.nil _ _
          go_wp2_with (with_reducible refine G.any_mark _ ?_; (try generalize Array.size (World.heap (G.w _)) = bk); (try dsimp only [List.set_cons_zero, List.set_cons_succ]); (try clear g); intro g)
          refine (CF.out _ hsn HB0.out).mono ?_
          rintro e w1 ⟨rfl, hb⟩
          obtain ⟨g1, rfl⟩ := G.call_ex _ hb
          clear hb
          (try clear g)
          revert g1
          intro g
          clear hsn
          go_wp2_with (with_reducible refine G.any_mark _ ?_; (try generalize Array.size (World.heap (G.w _)) = bk); (try dsimp only [List.set_cons_zero, List.set_cons_succ]); (try clear g); intro g)
          ((try simp only [G.drew_eq, G.drewN_eq]); (refine G.any_mark _ ?_; (try generalize Array.size (World.heap (G.w _)) = bk); (try dsimp only [List.set_cons_zero, List.set_cons_succ]); (try clear g); intro g))
          refine bodyPost_ret (v := .tuple #[.slice none 0 0, .agg #[.int .i64 0, .int .i64 0]]) (by simp [results, Try.f23, go_sem]) rfl ⟨fun _ => ?_, fun h => absurd (by rw [HZ.out]; exact HB0.out) h⟩
          rw [HZ.out]
          exact ⟨none, 0, (fun _ => none), by rw [limbs_zero]; rfl, by rw [limbs_zero]; exact Frag.Sl.nil _ _, g.none⟩
        · have hsl : SlW g.w (some ⟨b, 0, none⟩) cap (limbs N) := (sl_row hrow rfl (by have h300 : (limbs N).length ≤ 300 := len_digits (v := N) (k := k) (by rw [← HN.out.1]; exact HLT.out) (by omega); omega) (ok_limbs N)).at (blkF_sub g.blk0)
          have HM0 : Hid ((limbs N).length ≤ 140737488355328) := Lib.hid (by have h300 : (limbs N).length ≤ 300 := len_digits (v := N) (k := k) (by rw [← HN.out.1]; exact HLT.out) (by omega); omega)
          by_cases hN8 : N < 2 ^ 8192
          · have CF := Lib.hid (fun w h => fits_yes (some ⟨b, 0, none⟩) cap N w h hN8)
            have H8 := Lib.hid hN8
            clear hN8
            go_wp2_with (with_reducible refine G.any_mark _ ?_; (try generalize Array.size (World.heap (G.w _)) = bk); (try dsimp only [List.set_cons_zero, List.set_cons_succ]); (try clear g); intro g)
            refine (CF.out _ hsl).mono ?_
            rintro e w1 ⟨rfl, hb⟩
            obtain ⟨g1, rfl⟩ := G.call_ex _ hb
            clear hb
            (try clear g)
            revert g1
            intro g
            clear hsl
            go_wp2_with (with_reducible refine G.any_mark _ ?_; (try generalize Array.size (World.heap (G.w _)) = bk); (try dsimp only [List.set_cons_zero, List.set_cons_succ]); (try clear g); intro g)
            ((try simp only [G.drew_eq, G.drewN_eq]); (refine G.any_mark _ ?_; (try generalize Array.size (World.heap (G.w _)) = bk); (try dsimp only [List.set_cons_zero, List.set_cons_succ]); (try clear g); intro g))
            have hlen := HM0.out
            refine bodyPost_ret (v := .tuple #[.slice (some ⟨b, 0, none⟩) (limbs N).length cap, .agg #[.int .i64 0, .int .i64 0]]) (by simp [results, Try.f23, go_sem]) rfl ⟨fun _ => ?_, fun h => absurd (by rw [HN.out.1]; exact H8.out) h⟩
            rw [HN.out.1]
            exact ⟨_, cap, _, rfl, sl_row hrow rfl hlen (ok_limbs N), g.give (List.mem_cons_self ..)⟩
          · have CF := Lib.hid (fun w h => fits_no (some ⟨b, 0, none⟩) cap N w h hN8)
            have H8 := Lib.hid hN8
            clear hN8
            go_wp2_with (with_reducible refine G.any_mark _ ?_; (try generalize Array.size (World.heap (G.w _)) = bk); (try dsimp only [List.set_cons_zero, List.set_cons_succ]); (try clear g); intro g)
            refine (CF.out _ hsl).mono ?_
            rintro e w1 ⟨rfl, hb⟩
            obtain ⟨g1, rfl⟩ := G.call_ex _ hb
            clear hb
            (try clear g)
            revert g1
            intro g
            clear hsl
            go_wp2_with (with_reducible refine G.any_mark _ ?_; (try generalize Array.size (World.heap (G.w _)) = bk); (try dsimp only [List.set_cons_zero, List.set_cons_succ]); (try clear g); intro g)
            ((try simp only [G.drew_eq, G.drewN_eq]); (refine G.any_mark _ ?_; (try generalize Array.size (World.heap (G.w _)) = bk); (try dsimp only [List.set_cons_zero, List.set_cons_succ]); (try clear g); intro g))
            refine bodyPost_ret (v := .tuple #[.slice none 0 0, .agg #[.int .i64 5, .int .i64 0]]) (by simp [results, Try.f23, go_sem]) rfl ⟨fun h => absurd (by rw [HN.out.1] at h; exact h) H8.out, fun _ => ?_⟩
            exact ⟨none, 0, (fun _ => none), by rw [limbs_zero]; rfl, by rw [limbs_zero]; exact Frag.Sl.nil _ _, g.none⟩
end Go.Proofs.Ytfifcpgjcgoinaa
